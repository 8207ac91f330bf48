import Derived.Test.YtoeigdpfcnaaeaaGreatM1
import Derived.LoopN
import Derived.Orders
import Derived.Scope
set_option linter.unusedVariables false
set_option linter.unusedSimpArgs false
set_option linter.defProp false
noncomputable section
namespace Go.Sym
open Go.RowKit
section
variable {X:Cx}{P:Program}{base:Nat}{L:Nat->Prop}
def Vk {k:Ck}{x y:PV}(h:eqC k x y=some true):x=y:=by
 unfold eqC at h;split at h
 .grind
 .grind
 .rename_i a b;have:=qi h;cases a with
  |mk a=>cases b with
   |mk b=>have:(a==b)=true:=this;rw[eq_of_beq this]
 .cases h
def xx:∀{ks:List Ck} {xs ys:List PV},eqL ks xs ys=some true->xs=ys
 |[],[],[],_=>rfl
 |k::ks,x::xs,y::ys,h=>by
  unfold eqL at h;split at h
  .rename_i b hb;split at h
   .rename_i c hc;simp at h;obtain⟨rfl,rfl⟩:=h;rw[Vk hb,xx hc]
   .cases h
  .cases h
 |[],[],_::_,h=>by cases h
 |[],_::_,_,h=>by cases h
 |_::_,[],_,h=>by cases h
 |_::_,_::_,[],h=>by cases h
def Me {e:Bool}{n:Nat}{rec:TypeId->Option (List Ck)}(hrec:∀t ks,rec t=some ks->EqT P t ks/\∀vx:List Value,vx.length=ks.length->∃u,mY P t vx=some u/\ cO P (Instr.checkKey e n t u)=some ()){vx:List Value}:∀(fs:List Field) (o:Nat) {ks:List Ck},yS rec fs o=some ks->o+ks.length<=vx.length->
  cO P (forIn fs () λf (_:Unit)=>if f.name≠ "_" then do Instr.checkKey e n f.type (<-part f.type vx.toArray f.offset);pure (ForInStep.yield ()) else pure (ForInStep.yield ()))=some ()
 |[],o,ks,h,_=>rfl
 |f::fs,o,ks,h,hl=>by
  unfold yS at h;split at h
  .rename_i hn;simp only[aJ,bne_iff_ne] at hn;have ho:=bm hn.2;split at h
   .rename_i k hk;split at h
    .rename_i r hr;cases h;simp at hl;obtain⟨hT,hE⟩:=hrec _ _ hk;obtain⟨u,p1,p2⟩:=zf hT (vs:=vx) (o:=o) (by omega);obtain⟨u',m1,m2⟩:=hE ((vx.drop o).take k.length) (by simp;omega);rw[m1] at p1;cases p1;simp only[List.forIn_cons];rw[ad hn.1,ho,bR,bR,p2,bC,bR,m2,bC];exact Me hrec fs (o+k.length) hr (by omega)
    .cases h
   .cases h
  .cases h
def O8 {e:Bool}:∀(d:Nat) {t:TypeId} {ks:List Ck},jB P d t=some ks->∀n,d<=n->∀vx:List Value,vx.length=ks.length->∃u,mY P t vx=some u/\ cO P (Instr.checkKey e n t u)=some ()
 |0,t,ks,h=>by cases h
 |d+1,t,ks,h=>by
  intro n hn vx hl;obtain⟨n,rfl⟩:∃n',n=n'+1:=⟨n-1,by omega⟩;have hT:=(v7 (d+1) h (d+1) (aB _)).1;unfold jB at h;have one:∀{k:Ck} {dd:TypeDesc},P.underlying t=some dd->JQ dd=false->ks=[k]->(∀v,cO P (Instr.checkKey e (n+1) t v)=some ())->∃u,mY P t vx=some u/\ cO P (Instr.checkKey e (n+1) t u)=some ():=by
   intro k dd hu ha hk hc;have hag:b7 P t=some false:=by unfold b7;rw[hu];simp[ha]
   rw[hk] at hl;obtain⟨x,rfl⟩:=n9.1 (by simpa using hl)
   exact⟨x,by unfold mY;rw[hag];rfl,hc x⟩
  split at h
  .rename_i hu;cases h;exact one hu rfl rfl λv=>by
    unfold Instr.checkKey;rw[bR,eB hu,bC];rfl
  .rename_i k hu;cases h;exact one hu rfl rfl λv=>by
    unfold Instr.checkKey;rw[bR,eB hu,bC];rfl
  .rename_i hu;cases h;exact one hu rfl rfl λv=>by
    unfold Instr.checkKey;rw[bR,eB hu,bC];rfl
  .rename_i fields hu;split at h
   .cases h
   .split at h
    .rename_i ks' hfs;split at h
     .rename_i m hm;split at h
      .rename_i hb;cases h;have hag:b7 P t=some true:=by unfold b7;rw[hu];rfl
       refine⟨.agg vx.toArray,by unfold mY;rw[hag],?_⟩;have loop:=Me (P:=P) (e:=e) (n:=n) (rec:=jB P d) (λt ks hk=>⟨(v7 d hk d (aB _)).1,λvx hl=>O8 d hk n (by omega) vx hl⟩) (vx:=vx) fields.toList 0 hfs (by omega);unfold Instr.checkKey;simp only[bR,eB hu,bC];simp only[<-Array.forIn_toList];rw[loop];rfl
      .cases h
     .cases h
    .cases h
  .cases h
def Vl {k:Ck}{x y:PV}:eqC k x y=eqC k y x:=by
 cases k<;>cases x<;>try rfl
 all_goals rename_i x;cases x<;>cases y<;>try rfl
 all_goals rename_i y;cases y<;>try rfl
 .simp[eqC]
  grind
 .simp only[eqC,BEq.comm]
 .simp only[eqC];rename_i a b;cases a with
  |mk a=>cases b with
   |mk b=>congr 1;show(a==b)=(b==a);exact BEq.comm
def A4:∀{ks:List Ck} {xs ys:List PV},eqL ks xs ys=eqL ks ys xs
 |[],[],[]=>rfl
 |k::ks,x::xs,y::ys=>by simp[eqL];rw[Vl (k:=k),A4 (ks:=ks)]
 |[],[],_::_=>rfl
 |[],_::_,[]=>rfl
 |[],_::_,_::_=>rfl
 |_::_,[],[]=>rfl
 |_::_,[],_::_=>rfl
 |_::_,_::_,[]=>rfl
def nG {t:TypeId}{g:Bool}{v:Value}(ha:b7 P t=some g)(hs:Shp g v):mY P t v.cells.toList=some v:=by
 unfold mY;rw[ha];cases g with
 |true=>obtain⟨a,rfl⟩:=hs.1 rfl;rfl
 |false=>simp only;rw[jT (hs.2 rfl)];rfl
section
variable {w:World}{S:Nat->Prop}{kt:TypeId}{ks:List Ck}{ka va:Bool}{u:Value}{pk:List PV}
def C3 {e:MapEntry}{r:List PV}{b:Bool}(he:U5 w S ka ks.length va e r)(hu:RTs w S u.cells.toList pk)(hs:Shp ka u)(ha:b7 P kt=some ka)(hk:jB P 10 kt=some ks)(h:eqL ks (r.take ks.length) pk=some b):
  cO P (Op.equal kt u e.key)=some b/\(b=true->e.key=u/\∃vs,r=pk++vs/\ RTs w S e.val.cells.toList vs)/\ u.cells.toList.map .v=pk/\ e.key.cells.toList.map .v=r.take ks.length:=by
 obtain⟨kk,vs,rfl,h1,h2,h3,h4,h5,h6,h7⟩:=he;rw[iG h3] at h|-;obtain⟨e1,e2⟩:=C2 h h1.f2 hu.f2;have hE:=(v7 10 hk Op.maxDepth (by decide)).2;have h':=h;rw[e1,e2,A4] at h;obtain⟨u',k',q1,q2,q3⟩:=hE _ _ _ h;rw[nG ha hs] at q1;cases q1;rw[nG ha h4] at q2;cases q2;refine⟨q3,λhb=>?_,e2.symm,e1.symm⟩;subst hb;have:=xx h';subst this;have hc:e.key.cells.toList=u.cells.toList:=by
  have:=e1.symm.trans e2;exact(List.map_inj_right (λ_ _ h=>by cases h;rfl)).1 this
 have:=nG ha h4;rw[hc,nG ha hs] at this
 grind
def jW (ks:List Ck)(k:List PV):List (List PV)->Nat
 |[]=>0
 |r::rs=>match eqL ks (r.take ks.length) k with
  |some true=>0
  |_=>jW ks k rs+1
def Fd (u:Value)(ks:List Ck)(pk:List PV)(i:Nat)(es:List MapEntry)(rows:List (List PV)):Option (List PV)->Option (Nat×Value)->Prop
 |none,q=>q=none
 |some vs,q=>∃e,es[jW ks pk rows]?=some e/\ rows[jW ks pk rows]?=some (pk++vs)/\ q=some (i+jW ks pk rows,e.val)/\ e.key=u
def Fd.cons {i:Nat}{es:List MapEntry}{rows:List (List PV)}{e:MapEntry}{r:List PV}{o:Option (List PV)}{q:Option (Nat×Value)}(hb:eqL ks (r.take ks.length) pk=some false)(h:Fd u ks pk (i+1) es rows o q):Fd u ks pk i (e::es) (r::rows) o q:=by
 cases o with
 |none=>exact h
 |some vs=>
  obtain⟨e',h1,h2,h3,h4⟩:=h;have hi:jW ks pk (r::rows)=jW ks pk rows+1:=by simp[jW,hb]
  exact⟨e',by rw[hi];simpa using h1,by rw[hi];simpa using h2,by rw[hi,h3];congr 2;omega,h4⟩
def Fd.here {i:Nat}{es:List MapEntry}{rows:List (List PV)}{e:MapEntry}{vs:List PV}(hb:eqL ks ((pk++vs).take ks.length) pk=some true)(h:e.key=u):Fd u ks pk i (e::es) ((pk++vs)::rows) (some vs) (some (i,e.val)):=by
 have hi:jW ks pk ((pk++vs)::rows)=0:=by simp[jW,hb]
 exact⟨e,by rw[hi];rfl,by rw[hi];rfl,by rw[hi];rfl,h⟩
def Kr (hu:RTs w S u.cells.toList pk)(hs:Shp ka u)(ha:b7 P kt=some ka)(hk:jB P 10 kt=some ks):∀{es:List MapEntry} {rows:List (List PV)} {o:Option (List PV)} (i:Nat),yY w S ka ks.length va es rows->dW ks pk rows=some o->∃q,cO P (Instr.findAsking kt u es i)=some q/\ Fd u ks pk i es rows o q
 |[],[],o,i,_,h=>by
  unfold dW at h;split at h<;>cases h;exact⟨none,rfl,rfl⟩
 |e::es,r::rows,o,i,.cons he t,h=>by
  unfold dW at h;unfold Instr.findAsking;rw[bR];split at h
  .rename_i hb;cases h;obtain⟨q1,q2,_,q4⟩:=C3 he hu hs ha hk hb;obtain⟨q7,vs,q5,q6⟩:=q2 rfl;rw[q1,bC];have hl:=(jI hb).2;subst q5;rw[qc hl];exact⟨some (i,e.val),rfl,.here hb q7⟩
  .rename_i hb;obtain⟨q1,_⟩:=C3 he hu hs ha hk hb;rw[q1,bC];obtain⟨q,h1,h2⟩:=Kr hu hs ha hk (i+1) t h;exact⟨q,h1,h2.cons hb⟩
  .cases h
def Ks {dd:TypeDesc}(hdd:P.underlying kt=some dd)(hna:JQ dd=false)(hu:RTs w S u.cells.toList pk)(hs:Shp ka u)(ha:b7 P kt=some ka)(hk:jB P 10 kt=some ks):∀{es:List MapEntry} {rows:List (List PV)} {o:Option (List PV)} (i:Nat),yY w S ka ks.length va es rows->dW ks pk rows=some o->∃q,Instr.findNow dd u es i=some q/\ Fd u ks pk i es rows o q
 |[],[],o,i,_,h=>by
  unfold dW at h;split at h<;>cases h;exact⟨none,rfl,rfl⟩
 |e::es,r::rows,o,i,.cons he t,h=>by
  have hka:ka=false:=by
   unfold b7 at ha;rw[hdd] at ha;simp at ha;rw[<-ha];exact hna
  have now:∀{b:Bool},eqL ks (r.take ks.length) pk=some b->Instr.sameNow dd u e.key=some b:=λ{b} hb=>by
   obtain⟨_,_,q3,q4⟩:=C3 he hu hs ha hk hb;obtain⟨_,_,_,_,_,_,hke,_⟩:=he;have o1:=jT (hs.2 hka);have o2:=jT (hke.2 hka);rw[o1] at q3;rw[o2] at q4;rw[<-q3,<-q4,A4] at hb;unfold jB at hk;rw[hdd] at hk;cases dd<;>simp only at hk<;>first|(cases hk;done)|skip
   all_goals first|(cases hna;done)|skip
   all_goals
    cases hk;simp only[bY,tI,eqL] at hb;split at hb
    .rename_i c hc;cases hb;rw[jK];generalize e.key=kv at hc;cases u<;>cases kv<;>simp only[eqC] at hc<;>first|(cases hc;done)|skip
     all_goals first|exact hc|(split at hc<;>first|(cases hc;done)|(rename_i e;subst e;simp;rw[<-hc];rfl))
    .cases hb
  unfold dW at h;unfold Instr.findNow;split at h
  .rename_i hb;cases h;obtain⟨_,q2,_,q4⟩:=C3 he hu hs ha hk hb;obtain⟨q7,vs,q5,q6⟩:=q2 rfl;rw[now hb];have hl:=(jI hb).2;subst q5;rw[qc hl];exact⟨some (i,e.val),rfl,.here hb q7⟩
  .rename_i hb;rw[now hb];obtain⟨q,h1,h2⟩:=Ks hdd hna hu hs ha hk (i+1) t h;exact⟨q,h1,h2.cons hb⟩
  .cases h
def Mf (hu:RTs w S u.cells.toList pk)(hs:Shp ka u)(ha:b7 P kt=some ka)(hk:jB P 10 kt=some ks){es:List MapEntry}{rows:List (List PV)}{o:Option (List PV)}(hm:yY w S ka ks.length va es rows)(h:dW ks pk rows=some o):∃q,cO P (Instr.findKey kt u es)=some q/\ Fd u ks pk 0 es rows o q:=by
 have⟨dd,hdd⟩:∃dd,P.underlying kt=some dd:=by
  unfold b7 at ha;rw[bW] at ha
  grind
 unfold Instr.findKey;rw[bR,eB hdd,bC];cases hna:JQ dd with
 |false=>
  obtain⟨q,h1,h2⟩:=Ks hdd hna hu hs ha hk 0 hm h;rw[h1];exact⟨q,rfl,h2⟩
 |true=>
  have hnone:∀es i,Instr.findNow dd u es i=some none/\ es=[]\/Instr.findNow dd u es i=none:=by
   intro es i;cases es with
   |nil=>exact .inl ⟨rfl,rfl⟩
   |cons e es=>
    refine .inr ?_;unfold Instr.findNow;have:Instr.sameNow dd u e.key=none:=by
     cases dd<;>first|(cases hna;done)|(cases u<;>rfl)
    rw[this]
  rcases hnone es 0 with⟨h1,rfl⟩|h1
  .rw[h1];cases hm;unfold dW at h;split at h<;>cases h;exact⟨none,rfl,rfl⟩
  .rw[h1];exact Kr hu hs ha hk 0 hm h
def set_get {vv:List PV}:∀{rows l:List (List PV)},jS ks pk vv rows=some l->(dW ks pk rows=some none/\ l=rows++[pk++vv]/\ pk.length=ks.length)\/∃vs,dW ks pk rows=some (some vs)/\ l=rows.set (jW ks pk rows) (pk++vv)/\ pk.length=ks.length/\ eqL ks pk pk=some true
 |[],l,h=>by
  unfold jS at h;split at h
  .rename_i b hb;cases h;exact .inl ⟨by simp[dW,hb],rfl,(jI hb).2⟩
  .cases h
 |r::rows,l,h=>by
  unfold jS at h;split at h
  .rename_i hb;cases h;refine .inr ⟨r.drop ks.length,by simp[dW,hb],?_,(jI hb).2,by have:=xx hb;rw[this] at hb;exact hb⟩;simp[jW,hb];rw[xx hb]
  .rename_i hb;split at h
   .rename_i l' hl;cases h;rcases set_get hl with⟨h1,h2,h3⟩|⟨vs,h1,h2,h3,h4⟩
    .exact .inl ⟨by simp[dW,hb];exact h1,by rw[h2];rfl,h3⟩
    .exact .inr ⟨vs,by simp[dW,hb];exact h1,by simp only[jW,hb];rw[h2];rfl,h3,h4⟩
   .cases h
  .cases h
end
def qN {w:World}{r:Nat}{es:Array MapEntry}{ck:Nat}(h:w.heap[r]?=some (.map es ck)):(getObj r).run P w= .ok (.map es ck) w:=by
 simp[getObj,Sem.run,h]
def Aw {w:World}{r:Nat}{es:Array MapEntry}{ck:Nat}(o:Obj)(h:w.heap[r]?=some (.map es ck)):(setObj r o).run P w= .ok () {w with heap:=w.heap.setIfInBounds r o}:=by
 simp[setObj,Sem.run,h]
def O9 (hm:MR X base L){t:TypeId}{T:MT}:SmR P X base L (Instr.makeMap t none) (.w (.c (.mp X.σ.nb)),X.σ.new (.map (.c (.sl [])) T.ka T.ks.length T.va)):=by
 intro hN;have hx:Nx X base L (X.nw (X.w.alloc (.map #[] 0)) (some (X.w.heap.size,0)) (.map (.c (.sl [])) T.ka T.ks.length T.va)):=CQ hm hN rfl (λB l h=>by cases h;rfl) (.alloc _) λsx=>⟨X.w.heap.size,#[],0,[],upR_self,te _ _,rfl,.nil⟩;refine⟨.map (some X.w.heap.size),X.nw (X.w.alloc (.map #[] 0)) (some (X.w.heap.size,0)) (.map (.c (.sl [])) T.ka T.ks.length T.va),?_,.w (.c (.mp (.inr rfl) λsb h=>⟨_,_,upR_self,rfl⟩)),hx,rfl⟩;rfl
structure MtOk (P:Program)(t:TypeId)(T:MT):Prop where
 u:P.underlying t=some (.map T.kt T.et)
 ks:jB P 10 T.kt=some T.ks
 z:pG P T.et=some T.z
 ka:b7 P T.kt=some T.ka
 va:b7 P T.et=some T.va
 zl:(T.va=true->2<=T.z.length)/\(T.va=false->T.z.length=1)
 zs:∀zv,pF P T.et=some zv->Shp T.va zv
def Kt {t:TypeId}{T:MT}(h:CD P t=some T):MtOk P t T:=by
 unfold CD at h;split at h
 .rename_i kt et hu;split at h
  .rename_i ks hk;split at h
   .rename_i z hz;split at h
    .rename_i ka hka;split at h
     .rename_i va hva;split at h
      .rename_i hc;cases h;simp at hc;obtain⟨⟨_,hzl⟩,hzs⟩:=hc;refine⟨hu,hk,hz,hka,hva,?_,λzv hzv=>?_⟩
       .cases va with
        |true=>exact⟨λ_=>cg hzl,λh=>by cases h⟩
        |false=>exact⟨λh=>(by cases h),λ_=>bm hzl⟩
       .rw[hzv] at hzs;cases zv<;>cases va<;>simp[aff] at hzs<;>first|exact⟨λ_=>⟨_,rfl⟩,λh=>by cases h⟩|exact⟨λh=>(by cases h),λ_=>rfl⟩
      .cases h
     .cases h
    .cases h
   .cases h
  .cases h
 .cases h
def D7 (hm:MR X base L){g:Bool}{w:SW}{v:Value}(h:WR X v w):Sp X.e (J5 X.σ g w) λa=>∃p,a.ev X.e=some p/\ RTs X.w X.S v.cells.toList p.cells/\ Shp g v/\ p.cells.all t0=true:=by
 unfold J5;split
 .split
  .refine(dI h.inv).mono λa ⟨p,h1,h2,h3⟩=>⟨p,h1,?_,⟨λh=>(by cases h),λ_=>h.inv.one⟩,?_⟩
   .rw[jT h.inv.one];cases p<;>first|exact .cons h3 .nil|cases h2
   .cases p<;>first|rfl|cases h2
  .exact .fail
 .split
  .exact .fail
  .rename_i hne;refine(Ag hm h).mono λa ⟨p,h1,h2⟩=>⟨p,h1,?_⟩;have⟨ar,hv⟩:∃ar,v= .agg ar:=by
    cases h with
    |c=>exact absurd rfl (hne _)
    |av=>exact⟨_,rfl⟩
    |agg=>exact⟨_,rfl⟩
   subst hv;cases h2 with
   |v hp=>cases hp
   |nil hn=>rcases hn with hn|⟨_,_,hn⟩<;>cases hn
   |agg r ht=>exact⟨r,⟨λ_=>⟨_,rfl⟩,λh=>by cases h⟩,ht⟩
def Mg (hm:MR X base L){T:MT}{c:SC}{v:Value}{b:Nat}{l:A}(hv:CR X v c)(h:OU X.σ T c=some (b,l)):look X.σ.bl b=some (.map l T.ka T.ks.length T.va)/\∃B es ck rows,v= .map (some B)/\ X.ρ b=some (B,0)/\ X.w.heap[B]?=some (.map es ck)/\ l.ev X.e=some (.sl rows)/\ yY X.w X.S T.ka T.ks.length T.va es.toList rows:=by
 unfold OU at h;split at h
 .rename_i b';split at h
  .rename_i l' ka nk va hl;split at h
   .rename_i hc;cases h;have bq_ok:∀{a b:Bool},bq a b=true->a=b:=λ{a b} h=>by cases a<;>cases b<;>first|rfl|cases h
    simp only[aJ] at hc;have e2:=bm hc.1.2;obtain⟨B,es,ck,rows,h1,h2,h3,h4⟩:=hm.bl b _ hl;cases hv with
    |mp hb hp=>
     obtain⟨B',l',h5,h6⟩:=hp _ (hm.kd _ _ hl)
     grind
   .cases h
  .cases h
 .cases h
def Yy {ks:List Ck}{pk:List PV}:∀{rows:List (List PV)} {o:Option (List PV)},dW ks pk rows=some o->pk.length=ks.length
 |[],o,h=>by
  unfold dW at h;split at h
  .rename_i hb;exact(jI hb).2
  .cases h
 |r::rows,o,h=>by
  unfold dW at h;split at h
  .rename_i hb;exact(jI hb).2
  .rename_i hb;exact(jI hb).2
  .cases h
def Pa (hm:MR X base L){t:TypeId}{c:SC}{k:SW}{ok:Bool}{v u:Value}(hv:CR X v c)(hu:WR X u k):Sp X.e (DW P X.σ t c k ok) λsv=>∃w,(Instr.lookup t v u ok).run P X.w= .ok w X.w/\ VR X w sv:=by
 unfold DW;split
 .rename_i T hT;have mt:=Kt hT;split
  .rename_i b l hb;obtain⟨hl,B,es,ck,rows,rfl,h1,h2,h3,h4⟩:=Mg hm hv hb;refine Sp.bind (D7 hm hu) λa ⟨pk,a1,a2,a3,a4⟩=>Sp.bind Sp.emit λy hy=>?_;obtain⟨r,r1,r2⟩:=gP hy h3 a1;simp only[RF.ev] at r1;split at r1
   .rename_i o ho;cases r1;obtain⟨q,f1,f2⟩:=Mf (P:=P) a2 a3 mt.ka mt.ks h4 ho;have hpl:=Yy ho;have hul:u.cells.toList.length=T.ks.length:=by rw[<-hpl];exact a2.f2.len
    obtain⟨u',c1,c2⟩:=O8 (P:=P) (e:=es.isEmpty) 10 mt.ks 10000 (by decide) u.cells.toList hul;rw[nG mt.ka a3] at c1;cases c1;have hck:=f7 P _ _ c2 X.w;have hfd:=f7 P _ _ f1 X.w;obtain⟨zv,z1,z2,z3,z4⟩:=mU mt.z;have val:∃v' has,(Instr.lookup t (.map (some B)) u ok).run P X.w= .ok (if ok then .tuple #[v',.bool has] else v') X.w/\ has=o.isSome/\ WR X v' (match T.va with|true=> .av y|false=> .c (.a y)):=by
     have wr:∀{v':Value} {vs:List PV},RTs X.w X.S v'.cells.toList vs->Shp T.va v'->vs.all t0=true->(T.va=true->vs.length≠1)->y.ev X.e=some (JP vs)->WR X v' (match T.va with|true=> .av y|false=> .c (.a y)):=λ{v' vs} g1 g2 g3 g4 g5=>by
      cases hva:T.va with
      |true=>
       rw[hva] at g2 g4;obtain⟨ar,rfl⟩:=g2.1 rfl;have:JP vs= .agg vs:=by
        unfold JP;split
        .exact absurd rfl (g4 rfl)
        .rfl
       rw[this] at g5;exact .av g5 g3 g1
      |false=>
       rw[hva] at g2;rw[jT (g2.2 rfl)] at g1;cases g1 with
       |cons h t=>cases t with
        |nil=>rename_i p;exact .c (.a (p:=p) g5 (by simpa using g3) h)
     cases o with
     |none=>
      have f2:q=none:=f2;subst f2;refine⟨zv,false,?_,rfl,wr (.of (z4 X.w X.S)) (mt.zs zv z1) z3 (λh e=>by have:=mt.zl.1 h;omega) r2⟩;cases ok<;>simp only[Instr.lookup,Sem.run_bind,run_underlying mt.u,Result.andThen_ok,qN h2,hck,hfd,qw z1,Sem.run_pure]<;>rfl
     |some vs=>
      obtain⟨e,g1,g2,rfl,g4⟩:=f2;obtain⟨r,g5,kk,vs',rfl,e1,e2,e3,e4,e5,e6,e7⟩:=h4.get _ e g1;rw[g2] at g5;have hk:pk.cells=kk/\ vs=vs':=List.append_inj (qi g5) (by rw[hpl,e3]);obtain⟨_,rfl⟩:=hk;refine⟨e.val,true,?_,rfl,wr e2 e5 e6 e7 r2⟩;cases ok<;>simp only[Instr.lookup,Sem.run_bind,run_underlying mt.u,Result.andThen_ok,qN h2,hck,hfd,Sem.run_pure]<;>rfl
    obtain⟨v',has,w1,w2,w3⟩:=val;split
    .rename_i hok;refine Sp.bind Sp.emit λh' hh=> .ret ⟨_,w1,?_⟩;obtain⟨r',s1,s2⟩:=gP hh h3 a1;simp only[RF.ev,ho] at s1;cases s1;rw[ad rfl];refine .tup (.cons w3 (.cons (.c (.a s2 rfl ?_)) .nil));rw[w2];exact .v rfl
    .exact .ret ⟨_,w1,.w w3⟩
   .cases r1
  .exact .fail
 .exact .fail
def Vm {n:Nat}{k:Ck}{x:Value}{b:Bool}(h:eqC k (.v x) (.v x)=some b):Instr.sameBits n x x=true:=by
 cases k<;>cases x<;>simp[eqC] at h<;>first|(cases h;done)|skip
 .cases n<;>simp[Instr.sameBits]
 .cases n<;>simp[Instr.sameBits]
 .rename_i a;have:(a==a)=true:=by
   cases a with
   |mk a=>show(a==a)=true;exact gi a
  cases n<;>simp[Instr.sameBits,this]
def SU {v:Value}{g:Bool}(hs:Shp g v):∀{es:List Ck} {b:Bool},eqL es (v.cells.toList.map .v) (v.cells.toList.map .v)=some b->Instr.sameBits 10000 v v=true:=by
 intro es b h;have all:∀{l:List Value} {es:List Ck} {b:Bool},eqL es (l.map .v) (l.map .v)=some b->∀n,∀x∈l,Instr.sameBits n x x=true:=by
  intro l;induction l with
  |nil=>intro es b _ n x hx;cases hx
  |cons y l ih=>
   intro es b h n x hx;cases es with
   |nil=>cases h
   |cons k es=>
    simp only[bY,eqL] at h;split at h
    .rename_i c hc;split at h
     .rename_i d hd;rcases bz.1 hx with rfl|hx
      .exact Vm hc
      .grind
     .cases h
    .cases h
 cases g with
 |false=>
  have o:=jT (hs.2 rfl);rw[o] at h;exact all h 10000 v (by simp)
 |true=>
  obtain⟨a,rfl⟩:=hs.1 rfl;have h':=all h 9999;simp only[Instr.sameBits,gi,gI,aV];rintro⟨x,y⟩ hxy;have:x=y/\ x∈a.toList:=by
   obtain⟨i,hi,e⟩:=qj hxy
   grind
  obtain⟨rfl,hx⟩:=this;exact h' x hx
def x7 (hm:MR X base L){t:TypeId}{c:SC}{k w:SW}{v u x:Value}(hv:CR X v c)(hu:WR X u k)(hw:WR X x w):Sp X.e (xl P X.σ t c k w) λσ'=>∃X',(Instr.mapUpdate t v u x).run P X.w= .ok () X'.w/\ Nx X base L X'/\ X'.σ=σ':=by
 unfold xl;split
 .rename_i T hT;have mt:=Kt hT;split
  .rename_i b l hb;obtain⟨hl,B,es,ck,rows,rfl,h1,h2,h3,h4⟩:=Mg hm hv hb;refine Sp.bind (D7 hm hu) λa ⟨pk,a1,a2,a3,a4⟩=>Sp.bind (D7 hm hw) λc ⟨pv,b1,b2,b3,b4⟩=>Sp.bind Sp.emit λl' hl'=> .ret ?_;obtain⟨r,r1,r2⟩:=kI hl' h3 a1 b1;simp only[RF.ev] at r1;split at r1
   case isFalse=>cases r1
   rename_i hcv;obtain⟨hvl,hvt⟩:=hcv;split at r1
   .rename_i rows' hset;cases r1;have hvn:T.va=true->pv.cells.length≠1:=λh e=>by have:=mt.zl.1 h;omega
    have put:∀{es':Array MapEntry} {ck':Nat},yY X.w X.S T.ka T.ks.length T.va es'.toList rows'->Nx X base L (X.pt {X.w with heap:=X.w.heap.setIfInBounds B (.map es' ck')} b (.map l' T.ka T.ks.length T.va)):=λ{es' ck'} hmr=>by
     refine tf hm hl h1 rfl rfl rfl ⟨rfl,rfl,rfl,by simp,λk hk _=>by simp only[qD];rw[ac (by omega)],aB _⟩ λsx=>?_;refine⟨B,es',ck',rows',h1,?_,r2,F2.mono (λ_ _ ⟨ks,vs,e,a,b,c⟩=>⟨ks,vs,e,a.mono sx.k,b.mono sx.k,c⟩) hmr⟩;show(X.w.heap.setIfInBounds B _)[B]?=_
     grind
    have upd:∀{rs:List (List PV)} {o:Option (List PV)},dW T.ks pk.cells rows=some o->pk.cells.length=T.ks.length->∃q,(Instr.findKey T.kt u es.toList).run P X.w= .ok q X.w/\ Fd u T.ks pk.cells 0 es.toList rows o q/\(Instr.checkKey false 10000 T.kt u).run P X.w= .ok () X.w:=λ{rs o} ho hpl=>by
     obtain⟨q,f1,f2⟩:=Mf (P:=P) a2 a3 mt.ka mt.ks h4 ho;have hul:u.cells.toList.length=T.ks.length:=by rw[<-hpl];exact a2.f2.len
     obtain⟨u',c1,c2⟩:=O8 (P:=P) (e:=false) 10 mt.ks 10000 (by decide) u.cells.toList hul;rw[nG mt.ka a3] at c1;cases c1;exact⟨q,f7 P _ _ f1 X.w,f2,f7 P _ _ c2 X.w⟩
    rcases set_get hset with⟨g1,g2,g3⟩|⟨vs,g1,g2,g3,g4⟩
    .obtain⟨q,f1,f2,f3⟩:=upd (rs:=rows) g1 g3;have f2:q=none:=f2;subst f2;refine⟨_,?_,put (es':=es.push {key:=u,val:=x,born:=ck}) (ck':=ck+1) ?_,rfl⟩
     .simp only[Instr.mapUpdate,Sem.run_bind,run_underlying mt.u,Result.andThen_ok,qN h2,f3,f1,Aw _ h2];rfl
     .rw[g2,Array.toList_push];exact h4.append (.cons ⟨pk.cells,pv.cells,rfl,a2,b2,g3,a3,b3,hvt,hvn⟩ .nil)
    .obtain⟨q,f1,f2,f3⟩:=upd (rs:=rows) g1 g3;obtain⟨e,e1,e2,rfl,e4⟩:=f2;have hsb:Instr.sameBits 10000 e.key u=true:=by
      rw[e4];have:=(C2 g4 a2.f2 a2.f2).1;rw[this] at g4;exact SU a3 g4
     refine⟨_,?_,put (es':=es.modify (jW T.ks pk.cells rows) λe=>{e with key:=u,val:=x}) (ck':=ck) ?_,rfl⟩
     .have he:es[0+jW T.ks pk.cells rows]?=some e:=by rw[cQ,<-bU];exact e1
      simp only[Instr.mapUpdate,Sem.run_bind,run_underlying mt.u,Result.andThen_ok,qN h2,f3,f1,he,cD,cC,Instr.keyThatStays,hsb,az,Sem.run_pure,Aw _ h2];rw[cQ];rfl
     .rw[g2,Array.toList_modify];have:∀{es:List MapEntry} {rows:List (List PV)} (j:Nat),F2 (U5 X.w X.S T.ka T.ks.length T.va) es rows->yY X.w X.S T.ka T.ks.length T.va (es.modify j λe=>{e with key:=u,val:=x}) (rows.set j (pk.cells++pv.cells)):=by
       intro es rows j h;induction h generalizing j with
       |nil=>simpa using .nil
       |cons hh tt ih=>
        cases j with
        |zero=>exact .cons ⟨pk.cells,pv.cells,rfl,a2,b2,g3,a3,b3,hvt,hvn⟩ tt
        |succ j=>exact .cons hh (ih j)
      exact this _ h4
   .cases r1
  .exact .fail
 .exact .fail
end
section
variable {X:Cx}{P:Program}{base:Nat}{L:Nat->Prop}
def Yz (hm:MR X base L){t ty:TypeId}{w:SW}{v:Value}(hv:WR X v w):Sp X.e (UY P X.σ t w) (SwR P X (Builtin.len_ #[t] ty #[v])):=by
 have sl:∀{e:TypeId} {p:PV} {x:A},P.underlying t=some (.slice e)->x.ev X.e=some p->X.T v p->Sp X.e (ki 0 .len [x]) (SwR P X (Builtin.len_ #[t] ty #[v])):=by
  intro e p x hu hx hp;show Sp X.e (EM.bind (emit .len [x]) λy=>EM.ret (SW.c (.a y))) _
  refine Sp.bind Sp.emit λy hy=>?_;obtain⟨els,rfl,h2⟩:=gV hy hx;refine .ret ⟨.int .i64 els.length,?_,.c (.a h2 rfl (.v rfl))⟩;cases hp with
  |nil h=>rcases h with rfl|⟨b,o,rfl⟩<;>(simp[Builtin.len_,run_underlying hu];rfl)
  |sl _ _ _ hn _ _ _=>subst hn;simp[Builtin.len_,run_underlying hu];rfl
 unfold UY;split
 .rename_i n e hu;exact .ret ⟨.int .i64 n,by simp[Builtin.len_,run_underlying hu];rfl,.c (.a rfl rfl (.v rfl))⟩
 .rename_i e hu;split
  .cases hv.inv with
   |nil h=>exact .ret ⟨.int .i64 0,by rcases h with rfl|⟨b,o,rfl⟩<;>(simp[Builtin.len_,run_underlying hu];rfl),.c (.a rfl rfl (.v rfl))⟩
  .rename_i b o n;split
   .rename_i l nl z fz hl;cases hv.inv with
    |lsl _ _ h=>
     obtain⟨oi,ni,Ln,e1,e2,e3,e4,e5⟩:=h _ _ (hm.kd _ _ hl);refine .ret ⟨.int .i64 ni,?_,.c (.a e2 rfl (.v rfl))⟩;rcases e5 with⟨B,lim,cap,_,rfl,_,_⟩|⟨rfl,h,_⟩
     .simp[Builtin.len_,run_underlying hu];rfl
     .rcases h with rfl|⟨b,o,rfl⟩<;>(simp[Builtin.len_,run_underlying hu];rfl)
   .exact .fail
  .cases hv.inv with
   |a h _ r=>exact sl hu h r
  .cases hv.inv with
   |pc h ha hi r=>
    refine Sp.bind Sp.emit λy hy=>?_;obtain⟨u,h1,h2⟩:=iW hy h;simp only[RF.ev] at h1;rw[hi] at h1;cases h1;exact sl hu h2 r
  .exact .fail
 .exact .fail
def SX {mx:Bool}{ts:Array TypeId}{ty:TypeId}{ws:List SW}{vs:List Value}(h:F2 (WR X) vs ws):Sp X.e (mmS mx ws) (SwR P X (if mx then Builtin.max_ ts ty vs.toArray else Builtin.min_ ts ty vs.toArray)):=by
 have two:∀{p q z:PV},(RF.mm mx).ev [p,q]=some z->∃k m n,p= .v (.int k m)/\ q= .v (.int k n)/\ z= .v (.int k (if mx then max m n else min m n)):=λh1=>by
  simp only[RF.ev] at h1;split at h1
  .rename_i e;cases e;obtain⟨rfl,rfl⟩:=dq h1;exact⟨_,_,_,rfl,rfl,rfl⟩
  .cases h1
 unfold mmS;split
 .cases h with
  |cons hx t=>cases t with
   |cons hy t=>cases t with
    |nil=>
     refine Sp.bind (dI hx.inv) λa ⟨p,a1,_,a3⟩=>Sp.bind (dI hy.inv) λb ⟨q,b1,_,b3⟩=>Sp.bind Sp.emit λr hr=>?_;obtain⟨z,h1,h2⟩:=gP hr a1 b1;obtain⟨k,m,n,rfl,rfl,rfl⟩:=two h1;have:=jn a3;subst this;have:=jn b3;subst this;refine .ret ⟨_,?_,.c (.a h2 rfl (.v rfl))⟩;cases mx
     .have e:(if n<m then n else m)=min m n:=by rw[Int.min_def];split<;>split<;>omega
      show(pure (Value.int k (if n<m then n else m)):Sem Value).run P X.w=_
      rw[e];rfl
     .have e:(if n>m then n else m)=max m n:=by rw[Int.max_def];split<;>split<;>omega
      show(pure (Value.int k (if n>m then n else m)):Sem Value).run P X.w=_
      rw[e];rfl
 .cases h with
  |cons hx t=>cases t with
   |cons hy t=>cases t with
    |cons hz t=>cases t with
     |nil=>
      refine Sp.bind (dI hx.inv) λa ⟨p,a1,_,a3⟩=>Sp.bind (dI hy.inv) λb ⟨q,b1,_,b3⟩=>Sp.bind Sp.emit λr hr=>Sp.bind (dI hz.inv) λc ⟨s,c1,_,c3⟩=>Sp.bind Sp.emit λr' hr'=>?_;obtain⟨z,h1,h2⟩:=gP hr a1 b1;obtain⟨z',h3,h4⟩:=gP hr' h2 c1;obtain⟨k,m,n,rfl,rfl,rfl⟩:=two h1;obtain⟨k,m',n',e,rfl,rfl⟩:=two h3;cases e;have:=jn a3;subst this;have:=jn b3;subst this;have:=jn c3;subst this;refine .ret ⟨_,?_,.c (.a h4 rfl (.v rfl))⟩;cases mx
      .have e:∀m n:Int,(if n<m then n else m)=min m n:=λm n=>by rw[Int.min_def];split<;>split<;>omega
       show(do let x<-(pure (Value.int k (if n<m then n else m)):Sem Value);Builtin.min2 x (.int k n')).run P X.w=_
       rw[Sem.run_bind];show(pure (Value.int k (if n'<(if n<m then n else m) then n' else(if n<m then n else m))):Sem Value).run P X.w=_
       rw[e,e];rfl
      .have e:∀m n:Int,(if n>m then n else m)=max m n:=λm n=>by rw[Int.max_def];split<;>split<;>omega
       show(do let x<-(pure (Value.int k (if n>m then n else m)):Sem Value);Builtin.max2 x (.int k n')).run P X.w=_
       rw[Sem.run_bind];show(pure (Value.int k (if n'>(if n>m then n else m) then n' else(if n>m then n else m))):Sem Value).run P X.w=_
       rw[e,e];rfl
 .exact .fail
def SY (hm:MR X base L){t ty:TypeId}{c:SC}{v:Value}(hv:CR X v c):Sp X.e (J4 P X.σ t c) λσ'=>SmR P X base L (Builtin.clear_ #[t] ty #[v]) (.tup [],σ'):=by
 unfold J4;split
 .rename_i elem he;have hu:P.underlying t=some (.slice elem):=by
   unfold elemOf at he
   grind
  split
  .rename_i z hz;obtain⟨zv,hzv,q1,q2,q3⟩:=mU hz;have non:iT v->(Builtin.clear_ #[t] ty #[v]).run P X.w= .ok (.tuple #[]) X.w:=λh=>by
    rcases h with rfl|⟨b,o,rfl⟩<;>simp[Builtin.clear_,run_underlying hu]
   split
   .cases hv with
    |nil h=>exact .ret λ_=>⟨_,X,non h,.tup .nil,.refl hm,rfl⟩
   .rename_i b o n;split
    .rename_i l nl z' hl;split
     .rename_i hb;have:=jD hb;subst this;cases hv with
      |lsl hbm hone h=>
       obtain⟨oi,ni,Ln,e1,e2,e3,e4,e5⟩:=h _ _ (hm.kd _ _ hl);obtain⟨hz0,els,k1,k2,k3,k4⟩:=hm.bl b _ hl;rw[e3] at k2;have:=gE k2;subst this;refine Sp.bind Sp.emit λl' hl'=> .ret λhN=>?_;obtain⟨u,g1,g2⟩:=kI hl' k1 e1 e2;obtain⟨_,rfl⟩:=dq g1;simp only[aG] at g2;generalize hnew:els.take oi++List.replicate ni z++els.drop (oi+ni)=new at g2;have hlen:new.length=els.length:=by rw[<-hnew];simp;omega
       have hrw:Rw z.length new:=by
        rw[<-hnew];exact((k3.t _).app λr hr=>by rw[(fD.1 hr).2];exact⟨rfl,q2⟩).app (k3.d _)
       rcases e5 with⟨B,lim,cap,f1,rfl,f2,f3⟩|⟨rfl,hn,_⟩
       .rcases k4 with⟨_,k4⟩|⟨B',arr,k4,⟨tt,fz',hg,hfz⟩,k6⟩
        .rw[f1] at k4;cases k4
        rw[f1] at k4;cases k4;have hzl:zv.cells.toList.length=z.length:=by simpa using q1
        have hvs:=tg (q3 X.w X.S) ni;have hvl:(List.replicate ni zv.cells.toList).flatten.length=ni*z.length:=by simp[hzl]
        have hal:=k6.f2.len;have hsz:arr.toList.length=arr.size:=by simp
        rw[gU k3.l,aR,hsz] at hal;have m1:(oi+ni)*z.length<=els.length*z.length:=cB _ e4;rw[cx] at m1;obtain⟨w',arr',r1,r2,r3,r4,r5⟩:=pP (P:=P) hg hfz (oi*z.length) (vs:=(List.replicate ni zv.cells.toList).flatten) (by omega) (CU hvs (Rw.ft (z:=z.length) λr hr=>by rw[(fD.1 hr).2];exact⟨rfl,q2⟩));refine⟨.tuple #[],X.pt w' b (.lst l' nl z.length false),?_,.tup .nil,tf hm hl f1 rfl rfl rfl r2 λsx=>⟨hz0,new,g2,by rw[hlen];exact e3,hrw,.inr ⟨B,arr',by rw[r4];exact f1,⟨tt,fz',r3,by rw[r4];exact hfz⟩,?_⟩⟩,rfl⟩
        .cases ni with
         |zero=>
          have:w'=X.w:=by simp[storeCells] at r1;exact r1.symm
          simp[Builtin.clear_,run_underlying hu,Cx.pt,this]
         |succ ni=>
          have hzc:(Builtin.zeroCells zv.cells (ni+1)).toList=(List.replicate (ni+1) zv.cells.toList).flatten:=th _ _;rw[<-hzc] at r1;simp[Builtin.clear_,run_underlying hu,qw hzv,r1,Cx.pt]
        .have a1:F2 X.T (arr.toList.take (oi*z.length)) (els.take oi).flatten:=by
          have:=k6.f2.take (oi*z.length);rwa [dG,bM (by omega),jU k3.l] at this
         have a2:F2 X.T ((arr.toList.drop (oi*z.length+ni*z.length)).take (els.length*z.length-(oi*z.length+ni*z.length))) (els.drop (oi+ni)).flatten:=by
          have:=k6.f2.drop ((oi+ni)*z.length);rwa [mT k3.l,eU,cx] at this
         have e:arr'.toList.take (new.length*z.length)=arr.toList.take (oi*z.length)++(List.replicate ni zv.cells.toList).flatten++(arr.toList.drop (oi*z.length+ni*z.length)).take (els.length*z.length-(oi*z.length+ni*z.length)):=by
          rw[r5,hlen,lJ,aD,aR,bM (by omega),hvl,bi (l:=arr.toList.take (oi*z.length)++_) (by rw[aD,aR,hvl];omega)]
         rw[e,<-hnew,ef,ef];exact(RTs.of ((a1.append hvs).append a2)).mono sx.k
       .have:new=els:=by rw[<-hnew];simp
        subst this;refine⟨.tuple #[],X.pt X.w b (.lst l' nl z.length false),non hn,.tup .nil,?_,rfl⟩;rcases k4 with⟨k4,k5⟩|⟨B',arr,k4,k5,k6⟩
        ·
         refine vY hm (b0:=b) (B0:=X.w.heap.size) (σ':={X.σ with bl:=put X.σ.bl b (.lst l' nl z.length false)}) (sb0:= .lst l' nl z.length false) (λb' sb' hne h=>⟨by simpa [dO,hne] using h,rfl⟩) (by simp[dO]) (show X.K b=_ from hm.kd b (.lst l nl z.length false) hl) rfl (λ_ _=>rfl) (λ_ h=>h) hbm hm.fr (aB _) (λ_ h=> .inl h) (λb' hb=> .inl ⟨rfl,if e:b'=b then .inr ⟨.lst l nl z.length false,by rw[e];exact hl⟩ else .inl e⟩) (λB l h=>by rw[k5] at h;cases h) (.inl hm.hb) (λh=>di _ (hm.cur _ h)) (λb' sb' l hne h=>λhr=>?_) .refl rfl rfl λsx=>⟨hz0,new,g2,e3,k3,.inl ⟨k4,k5⟩⟩
         have h':look X.σ.bl b'=some sb':=by simpa [dO,hne] using h
         exact di _ (ey hm h' hr)
        .exact tf hm hl k4 rfl rfl rfl .refl λsx=>⟨hz0,new,g2,e3,k3,.inr ⟨B',arr,k4,k5,k6⟩⟩
     .exact .fail
    .exact .fail
   .exact .fail
  .exact .fail
 .exact .fail
def EZ {t elem:TypeId}(he:elemOf P t=some elem):P.underlying t=some (.slice elem):=by
 unfold elemOf at he
 grind
def Vn (hm:MR X base L){t t2 ty:TypeId}{c d:SC}{v u:Value}(hv:CR X v c)(hd:CR X u d):Sp X.e (OT P X.σ t c d) (SmR P X base L (Builtin.copy_ #[t,t2] ty #[v,u])):=by
 unfold OT;split
 .rename_i elem he;have hu:=EZ he;split
  .rename_i size hs;have hi:∃i,P.info? elem=some i/\ i.size=size:=by
    unfold szT at hs;simp_all
   obtain⟨i,hi,hisz⟩:=hi;split
   .rename_i b o n;split
    .rename_i l nl z' hl;split
     .rename_i hb;have:=jD hb;subst this;cases hv with
      |lsl hbm hone h=>
       obtain⟨oi,ni,Ln,e1,e2,e3,e4,e5⟩:=h _ _ (hm.kd _ _ hl);obtain⟨hz0,els0,k1,k2,k3,k4⟩:=hm.bl b _ hl;rw[e3] at k2;have:=gE k2;subst this;refine Sp.bind (EX (P:=P) hm hd) λys ⟨p,y1,y2⟩=>?_;refine Sp.bind Sp.emit λys' hys'=>Sp.bind Sp.emit λm hm'=>Sp.bind Sp.emit λk hk=>Sp.bind Sp.emit λzs hzs=>Sp.bind Sp.emit λl' hl'=> .ret λhN=>?_;obtain⟨els,rfl,_,_,a3,a4⟩:=qx (els0:=[]) (ni:=0) (.inr rfl) hys' rfl rfl y1 (λh=>by cases h);simp only[rO,aI,rN,bc] at a4;obtain⟨_,e,m1⟩:=gV hm' a4;cases e;obtain⟨a,cc,vs,rfl,hf,hvs,hr⟩:=y2 _ rfl _ a3;obtain⟨u1,g1,g2⟩:=gP hk e2 m1;have g1:some (PV.v (.int .i64 (min (ni:Int) (els.length:Int))))=some u1:=g1;cases g1;generalize hkk:min ni els.length=kk;have hki:min (ni:Int) (els.length:Int)=(kk:Int):=by omega
       rw[hki] at g2;obtain⟨u2,g3,g4⟩:=kI hzs a4 (show(A.c (.i64 0)).ev X.e=some (.i64 (0:Nat)) from rfl) g2
       obtain⟨_,rfl⟩:=dq g3;simp only[aG,dz] at g4;obtain⟨els1,e,b1,_,_,g5⟩:=qx (.inr rfl) hl' k1 e1 g4 (λh=>by cases h);cases e;have hek:(els.take kk).length=kk:=by rw[aR];omega
       rw[hek] at g5;generalize hnew:els0.take oi++els.take kk++els0.drop (oi+kk)=new at g5;have hlen:new.length=els0.length:=by rw[<-hnew];simp;omega
       have hrw:Rw z' new:=by rw[<-hnew];exact((k3.t _).app (hr.t _)).app (k3.d _)
       have hvl:=hvs.len;rw[gU hr.l] at hvl;have hkz:kk*z'<=els.length*z':=cB _ (by omega);have hmn:Nat.min els.length ni=kk:=by rw[<-hkk];exact zL _ _
       have hv':=hvs.take (kk*z');rw[jU hr.l] at hv';have hvl':(vs.take (kk*z')).length=kk*z':=by rw[aR];omega
       have hfk:=hf X.w rfl kk (by omega);have ret:∀{w':World} {X':Cx},X'.e=X.e->VR X' (.int .i64 (kk:Int)) (.w (.c (.a k))):=λhe=> .w (.c (.a (by rw[he];exact g2) rfl (.v rfl)));rcases e5 with⟨B,lim,cap,f1,rfl,f2,f3⟩|⟨rfl,hn,_⟩
       .rcases k4 with⟨_,k4⟩|⟨B',arr,k4,⟨tt,fz',hg,hfz⟩,k6⟩
        .rw[f1] at k4;cases k4
        rw[f1] at k4;cases k4;have hal:=k6.f2.len;have hsz:arr.toList.length=arr.size:=by simp
        rw[gU k3.l,aR,hsz] at hal;have m1:(oi+kk)*z'<=els0.length*z':=cB _ (by omega);rw[cx] at m1;obtain⟨w',arr',r1,r2,r3,r4,r5⟩:=pP (P:=P) hg hfz (oi*z') (vs:=vs.take (kk*z')) (by omega) (CU hv' (hr.t _).ft);refine⟨.int .i64 (kk:Int),X.pt w' b (.lst l' nl z' false),?_,ret (w':=w') rfl,tf hm hl f1 rfl rfl rfl r2 λsx=>⟨hz0,new,g5,by rw[hlen];exact e3,hrw,.inr ⟨B,arr',by rw[r4];exact f1,⟨tt,fz',r3,by rw[r4];exact hfz⟩,?_⟩⟩,rfl⟩
        .simp[Builtin.copy_,run_underlying hu,Go.sizeOf,typeInfo,hi,hisz,Builtin.lenOf,hmn,hfk,r1,Cx.pt];rfl
        .have a1:F2 X.T (arr.toList.take (oi*z')) (els0.take oi).flatten:=by
          have:=k6.f2.take (oi*z');rwa [dG,bM (by omega),jU k3.l] at this
         have a2:F2 X.T ((arr.toList.drop (oi*z'+kk*z')).take (els0.length*z'-(oi*z'+kk*z'))) (els0.drop (oi+kk)).flatten:=by
          have:=k6.f2.drop ((oi+kk)*z');rwa [mT k3.l,eU,cx] at this
         have e:arr'.toList.take (new.length*z')=arr.toList.take (oi*z')++vs.take (kk*z')++(arr.toList.drop (oi*z'+kk*z')).take (els0.length*z'-(oi*z'+kk*z')):=by
          rw[r5,hlen,lJ,aD,aR,bM (by omega),hvl',bi (l:=arr.toList.take (oi*z')++_) (by rw[aD,aR,hvl'];omega)]
         rw[e,<-hnew,ef,ef];exact(RTs.of ((a1.append hv').append a2)).mono sx.k
       .have hk0:kk=0:=by omega
        subst hk0;have:new=els0:=by rw[<-hnew];simp
        subst this;refine⟨.int .i64 (0:Nat),X.pt X.w b (.lst l' nl z' false),?_,ret (w':=X.w) rfl,?_,rfl⟩
        .simp only[tM,g9] at hfk;rcases hn with rfl|⟨B,o',rfl⟩<;>simp[Builtin.copy_,run_underlying hu,Go.sizeOf,typeInfo,hi,hisz,Builtin.lenOf,hmn,hfk,storeCells,Cx.pt]<;>rfl
        .rcases k4 with⟨k4,k5⟩|⟨B',arr,k4,k5,k6⟩
         .refine vY hm (b0:=b) (B0:=X.w.heap.size) (σ':={X.σ with bl:=put X.σ.bl b (.lst l' nl z' false)}) (sb0:= .lst l' nl z' false) (λb' sb' hne h=>⟨by simpa [dO,hne] using h,rfl⟩) (by simp[dO]) (show X.K b=_ from hm.kd b (.lst l nl z' false) hl) rfl (λ_ _=>rfl) (λ_ h=>h) hbm hm.fr (aB _) (λ_ h=> .inl h) (λb' hb=> .inl ⟨rfl,if e:b'=b then .inr ⟨.lst l nl z' false,by rw[e];exact hl⟩ else .inl e⟩) (λB l h=>by rw[k5] at h;cases h) (.inl hm.hb) (λh=>di _ (hm.cur _ h)) (λb' sb' l hne h=>λhr=>?_) .refl rfl rfl λsx=>⟨hz0,new,g5,e3,k3,.inl ⟨k4,k5⟩⟩
          have h':look X.σ.bl b'=some sb':=by simpa [dO,hne] using h
          exact di _ (ey hm h' hr)
         .exact tf hm hl k4 rfl rfl rfl .refl λsx=>⟨hz0,new,g5,e3,k3,.inr ⟨B',arr,k4,k5,k6⟩⟩
     .exact .fail
    .exact .fail
   .exact .fail
  .exact .fail
 .exact .fail
def Lz (hm:MR X base L){b:Builtin}{ts:Array TypeId}{ty:TypeId}{cs:Array Bool}{args:List SW}{vs:Array Value}(h:F2 (WR X) vs.toList args):Sp X.e (AX (s7 P X.σ b ts.toList args)) (OpR X base L ((builtin b ts ty cs vs).run P X.w)):=by
 have arr:∀{α:Type} {a:Array α} {l:List α},a.toList=l->a=l.toArray:=λh=>lF.1 (by simpa using h)
 have pur:∀{s:Sem Value} {x:EM SW},Sp X.e x (SwR P X s)->Sp X.e (EM.bind x λr=>EM.ret (SV.w r,X.σ)) (SmR P X base L s):=λhx=>Sp.bind hx λw ⟨v,h1,h2⟩=> .ret λ_=>⟨v,X,h1,.w h2,.refl hm,rfl⟩;unfold s7;split
 .split
  .rename_i st xt hts;split
   .generalize hvs:vs.toList=l at h;cases h with
    |cons hx t=>cases t with
     |cons hy t=>cases t with
      |nil=>
       rw[arr hts,arr hvs];exact pM (O7 hm hx.inv hy.inv)
   .exact Sp.bind (P:=λ_=>False) .fail λ_ h=>h.elim
  .exact Sp.bind (P:=λ_=>False) .fail λ_ h=>h.elim
 .split
  .rename_i t hts;split
   .generalize hvs:vs.toList=l at h;cases h with
    |cons hx t=>cases t with
     |nil=>
      rw[arr hts,arr hvs];exact pM (pur (Yz hm hx))
   .exact Sp.bind (P:=λ_=>False) .fail λ_ h=>h.elim
  .exact Sp.bind (P:=λ_=>False) .fail λ_ h=>h.elim
 .have:=SX (P:=P) (mx:=true) (ts:=ts) (ty:=ty) h;exact pM (pur (by simpa using this))
 .have:=SX (P:=P) (mx:=false) (ts:=ts) (ty:=ty) h;exact pM (pur (by simpa using this))
 .split
  .rename_i t hts;split
   .generalize hvs:vs.toList=l at h;cases h with
    |cons hx t=>cases t with
     |nil=>
      rw[arr hts,arr hvs];exact pM (Sp.bind (SY hm hx.inv) λσ' h=> .ret h)
   .exact Sp.bind (P:=λ_=>False) .fail λ_ h=>h.elim
  .exact Sp.bind (P:=λ_=>False) .fail λ_ h=>h.elim
 .split
  .rename_i t t2 hts;split
   .generalize hvs:vs.toList=l at h;cases h with
    |cons hx h'=>cases h' with
     |cons hy h'=>cases h' with
      |nil=>
       rw[arr hts,arr hvs];exact pM (Vn hm hx.inv hy.inv)
   .exact Sp.bind (P:=λ_=>False) .fail λ_ h=>h.elim
  .exact Sp.bind (P:=λ_=>False) .fail λ_ h=>h.elim
 .split
  .rename_i t hts;split
   .rename_i elem he;have hu:=EZ he;split
    .generalize hvs:vs.toList=l at h;cases h with
     |cons hx h'=>cases h' with
      |nil=>
       rw[arr hts,arr hvs];refine pM (.ret λ_=>⟨.int .i64 0,X,?_,.w (.c (.a rfl rfl (.v rfl))),.refl hm,rfl⟩);cases hx.inv with
       |nil hn=>rcases hn with rfl|⟨b,o,rfl⟩<;>simp[Builtin.cap_,run_underlying hu]<;>rfl
    .exact Sp.bind (P:=λ_=>False) .fail λ_ h=>h.elim
   .exact Sp.bind (P:=λ_=>False) .fail λ_ h=>h.elim
  .exact Sp.bind (P:=λ_=>False) .fail λ_ h=>h.elim
 .exact Sp.bind (P:=λ_=>False) .fail λ_ h=>h.elim
def A5 {ρc:Operand->Value}(hρ:EvR X ρc):∀{xs:List Operand} {cs:List Cap},CE X.σ xs=some cs->F2 (CapR X) (xs.map ρc) cs
 |[],_,h=>by cases h;exact .nil
 |x::xs,cs,h=>by
  unfold CE at h;split at h
  .rename_i w hw;split at h
   .rename_i c hc;split at h
    .rename_i l hl;cases h;refine .cons ?_ (A5 hρ hl);have:=iX hρ hw;generalize ρc x=v at this;unfold afg at hc;split at hc
     .cases hc;cases this.inv with
      |ptr hb h=>exact .ptr hb h
     .cases hc;cases this.inv with
      |a h ht r=>exact .a h ht r
     .cases hc
    .cases h
   .cases h
  .cases h
def ahj {v:Value}{c:Cap}(h:CapR X v c):WR X v c.w:=by
 cases h with
 |ptr hb h=>exact .c (.ptr hb h)
 |a h ht r=>exact .c (.a h ht r)
def SZ {vs:List Value}{cs:List Cap}(h:F2 (CapR X) vs cs):F2 (WR X) vs (cs.map Cap.w):=by
 induction h with
 |nil=>exact .nil
 |cons h _ ih=>exact .cons (ahj h) ih
def D8 {ρc:Operand->Value}(hρ:EvR X ρc){x:Option Operand}{c:Option SC}(h:J2 X.σ x=some c):OR X (x.map ρc) c:=by
 cases x with
 |none=>cases h;exact .inl ⟨rfl,rfl⟩
 |some x=>
  simp[J2] at h;split at h
  .rename_i c' hc;cases h;exact .inr ⟨_,_,rfl,rfl,eI hρ hc⟩
  .cases h
def Ku {g:FuncId}{fn:Func}{as:Array Value}{w:World}(hfn:P.funcs[g]?=some fn)(hb:fn.body≠none)(hn:fn.name≠ "runtime.NumGoroutine"):(callFunc g as).run P w= .ok (.enter g as) w:=by
 simp[callFunc,hfn,hn,hb]
def Vo (P:Program)(g:FuncId):Prop:=∃fn,P.funcs[g]?=some fn/\ fn.body≠none/\ fn.name≠ "runtime.NumGoroutine"
def YA {fn:Func}(hn:fn.name= "math/bits.Add64")(ho:fn.origin= ""):Extern.findNext fn=none/\∃e,Extern.find fn=some e/\∀P w k1 k2 k3 (x y c:Int),c.toNat<=1->(e #[.int k1 x,.int k2 y,.int k3 c]).run P w= .ok (.tuple #[.int .u64 (Int.ofNat ((x.toNat+y.toNat+c.toNat)% Go.Extern.MathBitsCarry.m64)),.int .u64 (Int.ofNat ((x.toNat+y.toNat+c.toNat)/Go.Extern.MathBitsCarry.m64))]) w:=by
 have n1:Extern.allNextRows.lookup "math/bits.Add64" =none:=by rfl
 have n2:Extern.allNextRows.lookup "" =none:=by rfl
 refine⟨by simp only[Extern.findNext,hn,ho,n1,n2];rfl,?_⟩;have n3:Extern.allGenericRows.lookup "math/bits.Add64" =none:=by rfl
 have n4:Extern.allTypedRows.lookup "math/bits.Add64" =none:=by rfl
 have⟨e,n5,n6⟩:∃e,Extern.allRows.lookup "math/bits.Add64" =some e/\ e=(λargs=>do
  let(x,y,c)<-Go.Extern.MathBitsCarry.three "Add64" args
  pure (Go.Extern.MathBitsCarry.pair ((x+y+c)% Go.Extern.MathBitsCarry.m64) ((x+y+c)/Go.Extern.MathBitsCarry.m64))):=⟨_,rfl,rfl⟩
 refine⟨e,by simp only[Extern.find,hn,n3,n4,n5];rfl,?_⟩;intro P w k1 k2 k3 x y c hc;subst n6;have h3:(Go.Extern.MathBitsCarry.three "Add64" #[.int k1 x,.int k2 y,.int k3 c]).run P w= .ok (x.toNat,y.toNat,c.toNat) w:=by
  have key:∀n:Nat,n<=1->(if n>1 then(do unsupported (.noEntry ("extern/math/bits." ++ "Add64" ++ ": a carry that is neither 0 nor 1"));pure (x.toNat,y.toNat,n):Sem (Nat×Nat×Nat)) else pure (x.toNat,y.toNat,n)).run P w= .ok (x.toNat,y.toNat,n) w:=λn hn=>by rw[ac (by omega)];rfl
  exact key c.toNat hc
 show Sem.run P (Go.Extern.MathBitsCarry.three "Add64" #[.int k1 x,.int k2 y,.int k3 c]>>=λp=>pure (Go.Extern.MathBitsCarry.pair ((p.1+p.2.1+p.2.2)% Go.Extern.MathBitsCarry.m64) ((p.1+p.2.1+p.2.2)/Go.Extern.MathBitsCarry.m64))) w=_
 rw[Sem.run_bind,h3];rfl
def Vp {P:Program}{g:FuncId}(h:OV P g=true):∃fn,P.funcs[g]?=some fn/\ fn.body=none/\ fn.name= "math/bits.Add64" /\ fn.origin= "" :=by
 unfold OV at h
 grind
def v8 (hm:MR X base L){ρc:Operand->Value}(hρ:EvR X ρc){o:Oper}:Sp X.e (opE P X.σ o.op) λr=>(∀g args,r= .call g args->Vo P g)->OpR X base L ((execOp ρc o).run P X.w) r:=by
 obtain⟨dst,op,ty,pos,after,guard⟩:=o;have nof:∀{x:EM SR} {s:Result Next},Sp X.e x (OpR X base L s)->Sp X.e x λr=>(∀g args,r= .call g args->Vo P g)->OpR X base L s r:=λh=>h.mono λ_ h _=>h;have val:∀{s:Sem Next} {v:Value} {sv:SV},s.run P X.w= .ok (.value v) X.w->VR X v sv->OpR X base L (s.run P X.w) (.val sv X.σ):=λh1 h2 _=>⟨_,X,.inl h1,h2,.refl hm,rfl⟩;have unit:∀{s:Sem Unit} {X':Cx},s.run P X.w= .ok () X'.w->Nx X base L X'->OpR X base L ((do s;pure .skip:Sem Next).run P X.w) (.val (.tup []) X'.σ):=λh1 h2 _=>⟨undef,_,.inr ⟨by simp[h1],rfl⟩,.tup .nil,h2,rfl⟩
 cases op with
 |move x=>exact nof (Sp.bind (Sp.ofO λv h=>h) λv h=> .ret (val rfl (hρ.2 x v h)))
 |assign x=>exact nof (Sp.bind (Sp.ofO λv h=>h) λv h=> .ret (val rfl (hρ.2 x v h)))
 |pick c a b=>
  refine nof (Sp.bind (Sp.ofO λv h=>h) λv h=>?_);split
  .rename_i t;have hc:=eI hρ h;generalize hval:ρc c=vc at hc;cases hc with
   |a h _ r=>
    cases h;have:=jn r;subst this;refine Sp.bind (Sp.ofO λv h=>h) λv h=> .ret ?_;cases t
    .exact val (v:=ρc b) (by simp[execOp,hval,asBool]) (hρ.2 b v h)
    .exact val (v:=ρc a) (by simp[execOp,hval,asBool]) (hρ.2 a v h)
  .exact .fail
 |alloc t=>exact nof (Sp.bind (Sp.ofO λv h=>h) λcs h=>pM (U8 hm h))
 |box t x=>
  refine nof (Sp.bind (Sp.ofO λv h=>h) λw h=>?_);have hw:=iX hρ h;refine Sp.bind (y9 (P:=P) (t:=t) hw) λcs hcs=>pM (L9 hm hcs.1 ?_);have:=pO (P:=P) X.w t (ρc x).cells;simp[Instr.box,newVar,this]
 |build t ps=>
  refine nof (Sp.bind (Sp.ofO λv h=>h) λz hz=>Sp.bind (Sp.ofO λv h=>h) λpl hpl=>Sp.bind (Sp.ofO λv h=>h) λl hl=>?_);have hl:=zd hρ hl;have e:(ps.toList.map λp=>(p.1,ρc p.2)).toArray=ps.map λ(i,x)=>(i,ρc x):=by
   apply lF.1;simp
  have h1:=Vb (X:=X) (P:=P) hz hpl hl;rw[e] at h1;exact Sp.bind h1 λcs hcs=>Af hm hcs
 |buildSlice t n ps=>
  refine nof (Sp.bind (Sp.ofO λv h=>h) λl hl=>?_);have e:(ps.toList.map λp=>(p.1,ρc p.2)).toArray=ps.map λ(i,x)=>(i,ρc x):=by
   apply lF.1;simp
  have h1:=D5 (P:=P) (t:=t) (len:=n) hm (zd hρ hl);rw[e] at h1;exact pM h1
 |load t a=>
  refine nof (Sp.bind (Sp.ofO λv h=>h) λc h=>?_);exact Af hm ((Ke hm (eI hρ h)).mono λw ⟨v,B,o,h1,h2,h3⟩=>⟨v,by rw[h1];simp[Instr.loadAt,Instr.sureAddr,h2],h3⟩)
 |store t a x=>
  refine nof (Sp.bind (Sp.ofO λv h=>h) λc hc=>Sp.bind (Sp.ofO λv h=>h) λw hw=>Sp.bind (SK (P:=P) hm (eI hρ hc) (iX hρ hw)) λσ' ⟨B,o,X',h1,h2,h3,h4⟩=> .ret ?_);rw[<-h4];exact unit (s:=Instr.storeAt t (ρc a) (ρc x)) (by rw[h1];simp[Instr.storeAt,Instr.sureAddr,h2]) h3
 |nilCheck x=>
  refine nof (Sp.bind (Sp.ofO λv h=>h) λc h=>?_);have hc:=eI hρ h;split
  .have e:∃B o,ρc x= .pointer (some ⟨B,o,none⟩):=by
    generalize ρc x=vc at hc;cases hc;exact⟨_,_,rfl⟩
   obtain⟨B,o,e⟩:=e;exact .ret (val (v:=ρc x) (by simp only[execOp,e];rfl) (.w (.c hc)))
  .have e:∃g f c,ρc x= .func (.func g) f c:=by
    generalize ρc x=vc at hc;cases hc;exact⟨_,_,_,rfl⟩
   obtain⟨g,f,c,e⟩:=e;exact .ret (val (v:=ρc x) (by simp only[execOp,e];rfl) (.w (.c hc)))
  .exact .fail
 |binOp op t x y yt=>
  show Sp X.e (match OQ P op t y with|true=>_|false=>_) _
  split
  .rename_i hq;obtain⟨q1,⟨et,q2⟩,rfl⟩:=Yq hq;refine nof (Sp.bind (Sp.ofO λv h=>h) λa ha=>Sp.bind (Ys (op:=op) hm (eI hρ ha)) λsv ⟨b,n,c,h1,h2,c',h4⟩=> .ret ?_);subst h4;refine val (v:= .bool (if b.isSome then pI op else !pI op)) ?_ (.w (.c h2))
   show(do pure (.value (<-(do eqGuard op t x (.const (.slice none 0 0)) (ρc x) (ρc (.const (.slice none 0 0)));binOp op t (ρc x) (ρc (.const (.slice none 0 0))):Sem Value))):Sem Next).run P X.w=_
   rw[hρ.1,h1,Sem.run_bind,Yr (xo:=x) (w:=X.w) q1 q2];rfl
  refine nof (Sp.bind (Sp.ofO λv h=>h) λa ha=>Sp.bind (Sp.ofO λv h=>h) λb hb=>Sp.bind (Yp (P:=P) (op:=op) (t:=t) (xo:=x) (yo:=y) hm (iX hρ ha) (iX hρ hb)) λsv ⟨w,h1,h2⟩=> .ret ?_);refine val (v:=w) ?_ h2;show(do pure (.value (<-(do eqGuard op t x y (ρc x) (ρc y);binOp op t (ρc x) (ρc y):Sem Value))):Sem Next).run P X.w=_
  rw[Sem.run_bind,h1];rfl
 |unOp op t x=>
  exact nof (Sp.bind (Sp.ofO λv h=>h) λc h=>Af hm (ahi (eI hρ h)))
 |convert s d x=>exact nof (Sp.bind (Sp.ofO λv h=>h) λc h=>Af hm (Yt (eI hρ h)))
 |lookup t x i ok=>
  refine nof (Sp.bind (Sp.ofO λv h=>h) λa ha=>Sp.bind (Sp.ofO λv h=>h) λk hk=>Sp.bind (Pa (P:=P) hm (eI hρ ha) (iX hρ hk)) λsv ⟨w,h1,h2⟩=> .ret ?_);refine val (v:=w) ?_ h2;show(do pure (.value (<-Instr.lookup t (ρc x) (ρc i) ok)):Sem Next).run P X.w=_
  rw[Sem.run_bind,h1];rfl
 |mapUpdate t x k v=>
  refine nof (Sp.bind (Sp.ofO λv h=>h) λa ha=>Sp.bind (Sp.ofO λv h=>h) λk hk=>Sp.bind (Sp.ofO λv h=>h) λw hw=>Sp.bind (x7 (P:=P) hm (eI hρ ha) (iX hρ hk) (iX hρ hw)) λσ' ⟨X',h1,h2,h3⟩=> .ret ?_);rw[<-h3];exact unit h1 h2
 |insert t x k v=>
  refine nof (Sp.bind (Sp.ofO λv h=>h) λa ha=>Sp.bind (Sp.ofO λv h=>h) λk hk=>Sp.bind (Sp.ofO λv h=>h) λw hw=>Sp.bind (x7 (P:=P) hm (eI hρ ha) (iX hρ hk) (iX hρ hw)) λσ' ⟨X',h1,h2,h3⟩=> .ret ?_);rw[<-h3];exact unit h1 h2
 |makeMap t r=>
  cases r with
  |some _=>exact .fail
  |none=>
   refine nof ?_;simp only[opE];split
   .rename_i p hp;refine .ret λhN=>?_;obtain⟨v,X',h1,h2⟩:=O9 (T:=p) hm hN;exact⟨v,X',.inl (by show(do pure (.value (<-Instr.makeMap t none)):Sem Next).run P X.w=_;rw[Sem.run_bind,h1];rfl),h2⟩
   .exact .fail
 |makeFunc fn a c=>
  cases fn with
  |func g=>
   refine nof (Sp.bind (Sp.ofO λv h=>h) λf hf=>Sp.bind (Sp.ofO λv h=>h) λcs hcs=> .ret ?_);exact val (v:= .func (.func g) (a.map ρc) (c.map ρc)) rfl (.w (.c (.fn (by simpa using A5 hρ hf) (by simpa using A5 hρ hcs))))
  |_=>exact .fail
 |makeSlice t l c=>exact nof (Sp.bind (Sp.ofO λv h=>h) λa ha=>Sp.bind (Sp.ofO λv h=>h) λb hb=>pM (Fm hm (eI hρ ha) (eI hρ hb)))
 |slice t x lo hi mx=>
  cases mx with
  |none=>exact nof (Sp.bind (Sp.ofO λv h=>h) λa ha=>Sp.bind (Sp.ofO λv h=>h) λl hl=>Sp.bind (Sp.ofO λv h=>h) λh hh=>FX hm (Vh hm (eI hρ ha) (D8 hρ hl) (D8 hρ hh)))
  |some mx=>
   cases hi with
   |none=>exact .fail
   |some hi=>exact nof (Sp.bind (Sp.ofO λv h=>h) λa ha=>Sp.bind (Sp.ofO λv h=>h) λl hl=>Sp.bind (Sp.ofO λv h=>h) λh hh=>Sp.bind (Sp.ofO λv h=>h) λm hm'=>FX hm (SQ hm (eI hρ ha) (D8 hρ hl) (eI hρ hh) (eI hρ hm')))
 |fieldAddr t x i=>exact nof (Sp.bind (Sp.ofO λv h=>h) λa ha=>FX hm (Kj (eI hρ ha)))
 |field t x i=>exact nof (Sp.bind (Sp.ofO λv h=>h) λa ha=>Af hm (Ve (iX hρ ha)))
 |indexAddr t x i=>exact nof (Sp.bind (Sp.ofO λv h=>h) λa ha=>Sp.bind (Sp.ofO λv h=>h) λb hb=>FX hm (Kl hm (eI hρ ha) (eI hρ hb)))
 |index t x i=>exact nof (Sp.bind (Sp.ofO λv h=>h) λa ha=>Sp.bind (Sp.ofO λv h=>h) λb hb=>Af hm (Vg (iX hρ ha) (eI hρ hb)))
 |extract x i=>
  refine nof (Sp.bind (Sp.ofO λv h=>h) λv h=>?_);have hv:=hρ.2 x v h;generalize hval:ρc x=vc at hv;split
  .cases hv with
   | @tup a ws ht=>
    refine Sp.bind (Sp.ofO λv h=>h) λw hw=> .ret ?_;obtain⟨u,h1,h2⟩:=ht.get' _ _ hw;refine val (v:=u) ?_ (.w h2);have h1':a[i]?=some u:=by rw[<-bU];exact h1
    simp[execOp,hval,Instr.extract,h1']
  .exact .fail
 |call c=>
  simp only[opE];refine Sp.bind (Sp.ofO λv h=>h) λargs hargs=>?_;have hr:=L8 hρ hargs;have hr':F2 (WR X) (c.args.map ρc).toList args:=by simpa using hr
  split
  .rename_i b hc;have e:execOp ρc ⟨dst,.call c,ty,pos,after,guard⟩=builtin b c.argTypes ty (c.args.map λ| .const _=>true|_=>false) (c.args.map ρc):=by
    show(do let d<-resolve ρc c ty;invoke d.target d.args:Sem Next)=_
    unfold resolve;rw[hc];rfl
   rw[e];exact nof (Lz hm hr')
  .rename_i f hc;refine Sp.bind (Sp.ofO λv h=>h) λfc hf=>?_;have hfv:=eI hρ hf;generalize hval:ρc f=vf at hfv;split
   .cases hfv with
    |fn h1 h2=>
     rename_i g fa ca f1 c1;have e:execOp ρc ⟨dst,.call c,ty,pos,after,guard⟩=callFunc g (f1++c.args.map ρc++c1):=by
      show(do let d<-resolve ρc c ty;invoke d.target d.args:Sem Next)=_
      unfold resolve;rw[hc];simp only[hval];rfl
     rw[e];split
     .rename_i hadd;split
      .obtain⟨fn,a1,a2,a3,a4⟩:=Vp hadd;have e1:f1=#[]:=by have:=h1.len;simpa using this
       have e2:c1=#[]:=by have:=h2.len;simpa using this
       rw[e1,e2,Array.empty_append,Array.append_empty];generalize c.args.map ρc=av at hr';obtain⟨al⟩:=av;simp only at hr';cases hr' with
       |cons x1 t1=>cases t1 with
        |cons x2 t2=>cases t2 with
         |cons x3 t3=>
          cases t3;refine Sp.bind (dI x1.inv) λx ⟨p1,u1,_,w1⟩=>Sp.bind (dI x2.inv) λy ⟨p2,u2,_,w2⟩=>Sp.bind (dI x3.inv) λz ⟨p3,u3,_,w3⟩=>Sp.bind Sp.emit λr hr=> .ret λ_ _=>?_;obtain⟨q,q1,q2⟩:=kI hr u1 u2 u3;simp only[RF.ev] at q1;split at q1
          .rename_i i j k e;simp only[qb,ju] at e;obtain⟨rfl,rfl,rfl⟩:=e;split at q1
           .rename_i hk;cases q1;have:=jn w1;subst this;have:=jn w2;subst this;have:=jn w3;subst this;obtain⟨n1,ex,n2,n3⟩:=YA a3 a4;refine⟨_,X,.inl (?_:_=Result.ok (Next.value (.tuple #[.int .u64 (Int.ofNat ((i.toNat+j.toNat+k.toNat)% Go.Extern.MathBitsCarry.m64)),.int .u64 (Int.ofNat ((i.toNat+j.toNat+k.toNat)/Go.Extern.MathBitsCarry.m64))])) X.w),.tup (.cons (.c (.pc q2 rfl rfl (.v rfl))) (.cons (.c (.pc q2 rfl rfl (.v rfl))) .nil)),.refl hm,rfl⟩;have n4:=n3 P X.w .u64 .u64 .u64 i j k hk;simp[callFunc,a1,a2,a3,n1,n2,n4]
           .cases q1
          .cases q1
      .exact .fail
     .refine .ret λhok=>?_;obtain⟨fn,k1,k2,k3⟩:=hok _ _ rfl;exact⟨_,Ku k1 k2 k3,by simpa using((SZ h1).append hr').append (SZ h2)⟩
   .exact .fail
  .exact .fail
 |_=>exact .fail
end
def bq_ok {a b:Bool}(h:bq a b=true):a=b:=by cases a<;>cases b<;>first|rfl|cases h
inductive LenR (w:World)(S:Nat->Prop):LK->Option (Nat×Nat)->Value->PV->Prop
 |lst {z B cap:Nat} {arr:Array Value} {els:List (List PV)} (hz:0<z) (hc:els.length<=cap/\ cap<=9223372036854775807) (hl:cap*z<=arr.size) (hr:Row w B arr) (hw:Rw z els) (he:RTs w S (arr.toList.take (els.length*z)) els.flatten):LenR w S (.lst z) (some (B,arr.size)) (.slice (some ⟨B,0,none⟩) els.length cap) (.sl els)
 |nil {z:Nat} {v:Value} (hz:0<z) (h:iT v):LenR w S (.lst z) none v (.sl [])
 |map {ka va:Bool} {nk B:Nat} {es:Array MapEntry} {ck:Nat} {rows:List (List PV)} (hg:w.heap[B]?=some (.map es ck)) (h:yY w S ka nk va es.toList rows):LenR w S (.map ka nk va) (some (B,0)) (.map (some B)) (.sl rows)
def Lof (q:Option (Nat×Nat))(B:Nat):Prop:=∃l,q=some (B,l)
def LenR.lt {w:World}{S:Nat->Prop}{k:LK}{q:Option (Nat×Nat)}{v:Value}{p:PV}(h:LenR w S k q v p){B:Nat}(hB:Lof q B):B<w.heap.size:=by
 obtain⟨l,hB⟩:=hB;cases h with
 |lst hz hc hl hr hw he=>cases hB;obtain⟨_,_,hg,_⟩:=hr;exact(bH.1 hg).1
 |nil=>cases hB
 |map hg h=>cases hB;exact(bH.1 hg).1
def LenR.mono {w:World}{S S':Nat->Prop}{k:LK}{q:Option (Nat×Nat)}{v:Value}{p:PV}(kp:Kp w S w S')(h:LenR w S k q v p):LenR w S' k q v p:=by
 cases h with
 |lst hz hc hl hr hw he=>exact .lst hz hc hl hr hw (he.mono kp)
 |nil hz h=>exact .nil hz h
 |map hg h=>exact .map hg (F2.mono (λ_ _ ⟨ks,vs,e,a,b,c⟩=>⟨ks,vs,e,a.mono kp,b.mono kp,c⟩) h)
def VL (e:List PV)(nl:A)(q:Option (Nat×Nat))(v:Value):LK->Prop
 | .lst z=>0<z/\∃n:Nat,nl.ev e=some (.i64 n)/\((∃B lim cap,q=some (B,lim)/\ v= .slice (some ⟨B,0,none⟩) n cap/\(n<=cap/\ cap<=9223372036854775807)/\ cap*z<=lim)\/(q=none/\ n=0/\ iT v))
 | .map .. =>∃B,q=some (B,0)/\ v= .map (some B)
 | .pre _=>False
def Knd (nl lc:A)(sb:SB):LK->Prop
 | .lst z=>sb= .lst lc nl z false
 | .map ka nk va=>sb= .map lc ka nk va
 | .pre _=>False
def C4 (w w':World)(q:Option (Nat×Nat))(v:Value):LK->Prop
 | .pre z=>∀B lim n cap,q=some (B,lim)->v= .slice (some ⟨B,0,none⟩) n cap->∀arr arr',Row w B arr->Row w' B arr'->arr'.toList.drop (n*z)=arr.toList.drop (n*z)
 |_=>True
def LK.plain_b {k:LK}(h:k.plain=true):k.b=k:=by cases k<;>first|rfl|cases h
def C4.of {w w':World}{q:Option (Nat×Nat)}{v:Value}{k:LK}(h:k.plain=true):C4 w w' q v k:=by cases k<;>first|trivial|cases h
def Knd.frz {nl lc:A}{sb:SB}{k:LK}(h:Knd nl lc sb k):frz sb=false:=by cases k<;>cases h<;>rfl
def Knd.kd {nl lc:A}{sb:SB}{k:LK}(h:Knd nl lc sb k)(y:A):kd (sj sb y)=Sym.kd sb/\ Knd nl y (sj sb y) k:=by cases k<;>cases h<;>exact⟨rfl,rfl⟩
section
variable {X X1:Cx}{P:Program}{base b:Nat}{sb:SB}{L:Nat->Prop}
def VL.step {e x:List PV}{nl:A}{q:Option (Nat×Nat)}{v:Value}{k:LK}(h:VL e nl q v k):VL (e++x) nl q v k:=by
 cases k with
 |lst z=>obtain⟨hz,n,h1,h2⟩:=h;exact⟨hz,n,DY h1,h2⟩
 |map=>exact h
 |pre=>exact h.elim
def D9 (hb:BR X b sb){nl lc:A}{k:LK}(hk:Knd nl lc sb k){q:Option (Nat×Nat)}{v:Value}(hv:VL X.e nl q v k)(hq:q=X.ρ b\/q=none):∃p,lc.ev X.e=some p/\ LenR X.w X.S k q v p:=by
 cases k with
 |lst z=>
  cases hk;obtain⟨hz,els,k1,k2,k3,k4⟩:=hb;obtain⟨_,n,h1,h2⟩:=hv;rw[h1] at k2;have:=gE k2;subst this;rcases h2 with⟨B,lim,cap,rfl,rfl,h3,h4⟩|⟨rfl,h3,h4⟩
  .have hq:X.ρ b=some (B,lim):=hq.elim wv λh=>(by cases h);rcases k4 with⟨_,k4⟩|⟨B',arr,k4,k5,k6⟩
   .rw[hq] at k4;cases k4
   .rw[hq] at k4;cases k4;exact⟨_,k1,.lst hz h3 h4 k5 k3 k6⟩
  .have:els=[]:=bS h3;subst this;exact⟨_,k1,.nil hz h4⟩
 |map ka nk va=>
  cases hk;obtain⟨B,es,ck,rows,h1,h2,h3,h4⟩:=hb;obtain⟨B',rfl,rfl⟩:=hv;have hq:X.ρ b=some (B',0):=hq.elim wv λh=>(by cases h);rw[hq] at h1;cases h1;exact⟨_,h3,.map h2 h4⟩
 |pre=>exact hk.elim
def Xt (hb:BR X b sb){nl lc y:A}{k:LK}(hk:Knd nl lc sb k){q:Option (Nat×Nat)}{v:Value}{p:PV}(hv:VL X.e nl q v k)(hq:q=X.ρ b\/q=none)(h:LenR X1.w X1.S k q v p)(hy:y.ev X1.e=some p)(hρ:X1.ρ b=X.ρ b)(he:X1.e=X.e)(hfr:q=none->∀B l,X.ρ b=some (B,l)->X1.w.heap[B]?=X.w.heap[B]?):BR X1 b (sj sb y):=by
 cases k with
 |lst z=>
  cases hk;obtain⟨hz,els,k1,k2,k3,k4⟩:=hb;obtain⟨_,n,h1,h2⟩:=hv;cases h with
  |lst hz hc hl hr hw he'=>
   rename_i B cap arr els';rcases h2 with⟨B,lim,cap,e1,e2,_⟩|⟨e1,_⟩
   .cases e2;refine⟨hz,_,hy,by rw[he];exact h1,hw,.inr ⟨_,_,by rw[hρ];exact hq.elim wv λh=>(by cases h),hr,he'⟩⟩
   .cases e1
  |nil hz' hn=>
   rcases h2 with⟨B,lim,cap,e1,_⟩|⟨_,rfl,_⟩
   .cases e1
   .refine⟨hz,[],hy,by rw[he];exact h1,(λ_ h=>by cases h),?_⟩;rcases k4 with⟨_,k4⟩|⟨B',arr,k4,⟨ty,fz,k5,k6⟩,_⟩
    .exact .inl ⟨rfl,by rw[hρ];exact k4⟩
    .exact .inr ⟨B',arr,by rw[hρ];exact k4,⟨ty,fz,by rw[hfr rfl _ _ k4];exact k5,k6⟩,by simp;exact .nil⟩
 |map ka nk va=>
  cases hk;cases h with
  |map hg hm=>exact⟨_,_,_,_,by rw[hρ];exact hq.elim wv λh=>(by cases h),hg,hy,hm⟩
 |pre=>exact hk.elim
def LnB (X:Cx)(sb:SB)(l n:A)(q:Option (Nat×Nat))(v:Value):LK->Prop
 | .pre z=>(∃nl,sb= .lst l nl z false)/\ VL X.e n q v (.lst z)/\∃els,∃ni:Nat,l.ev X.e=some (.sl els)/\ n.ev X.e=some (.i64 ni)/\ ni<=els.length
 |k=>Knd n l sb k/\ VL X.e n q v k
def LnB.plain {sb:SB}{l n:A}{q:Option (Nat×Nat)}{v:Value}{k:LK}(h:LnB X sb l n q v k)(hk:k.plain=true):Knd n l sb k/\ VL X.e n q v k:=by cases k<;>first|exact h|cases hk
def LnB.kd {sb:SB}{l n:A}{q:Option (Nat×Nat)}{v:Value}{k:LK}(h:LnB X sb l n q v k)(y:A):Sym.kd (sj sb y)=Sym.kd sb/\ frz sb=false/\ frz (sj sb y)=false:=by
 cases k with
 |pre z=>obtain⟨⟨nl,rfl⟩,_⟩:=h;exact⟨rfl,rfl,rfl⟩
 |lst=>exact⟨(h.1.kd y).1,h.1.frz,(h.1.kd y).2.frz⟩
 |map=>exact⟨(h.1.kd y).1,h.1.frz,(h.1.kd y).2.frz⟩
def Vq (hm:MR X base L){k:LK}{x:SC}{v:Value}(hv:CR X v x){b:Nat}{sb:SB}{lc n:A}(h:OX X.σ k x=some (b,sb,lc,n)):look X.σ.bl b=some sb/\∃q,LnB X sb lc n q v k/\(q=X.ρ b\/q=none):=by
 have lsl:∀{b':Nat} {l nl n:A} {z:Nat},look X.σ.bl b'=some (.lst l nl z false)->CR X v (.lsl b' (.c (.i64 0)) n)->∃q,(VL X.e n q v (.lst z)/\∃els,∃ni:Nat,l.ev X.e=some (.sl els)/\ n.ev X.e=some (.i64 ni)/\ ni<=els.length)/\(q=X.ρ b'\/q=none):=λ{b' l nl n z} hl hv=>by
  cases hv with
  |lsl hb h1 hp=>
   obtain⟨oi,ni,Ln,e1,e2,e3,e4,e5⟩:=hp _ _ (hm.kd _ _ hl);have:oi=0:=(gE (a:=0) (b:=oi) e1).symm;subst this;obtain⟨hz,els,k1,k2,_⟩:=hm.bl b' _ hl;rw[e3] at k2;have:=gE k2;rcases e5 with⟨B,lim,cap,f1,rfl,f2,f3⟩|⟨rfl,hn,_⟩
   .exact⟨some (B,lim),⟨⟨hz,ni,e2,.inl ⟨B,lim,cap,rfl,by simp,by omega,by simpa using f3⟩⟩,els,ni,k1,e2,by omega⟩,.inl f1.symm⟩
   .exact⟨none,⟨⟨hz,0,e2,.inr ⟨rfl,rfl,hn⟩⟩,els,0,k1,e2,b8 _⟩,.inr rfl⟩
 unfold OX at h;split at h
 .rename_i b' o n;split at h
  .rename_i l nl z hl;split at h
   .rename_i z';split at h
    .rename_i hc;simp only[aJ] at hc;cases h;have:=jD hc.2;subst this;have:=oX hc.1.1;subst this;have:=vX hc.1.2;subst this;obtain⟨q,h1,h2⟩:=lsl hl hv;exact⟨hl,q,⟨rfl,h1.1⟩,h2⟩
    .cases h
   .rename_i z';split at h
    .rename_i hc;simp only[aJ] at hc;cases h;have:=jD hc.2;subst this;have:=oX hc.1;subst this;obtain⟨q,h1,h2⟩:=lsl hl hv;exact⟨hl,q,⟨⟨nl,rfl⟩,h1⟩,h2⟩
    .cases h
   .cases h
  .cases h
 .rename_i b';split at h
  .rename_i l ka nk va hl;split at h
   .split at h
    .rename_i hc;simp only[aJ] at hc;cases h;have:=bq_ok hc.1.1;subst this;have:=jD hc.1.2;subst this;have:=bq_ok hc.2;subst this;cases hv with
     |mp hb hp=>
      obtain⟨B,l',h1,rfl⟩:=hp _ (hm.kd _ _ hl);obtain⟨B',_,_,_,h2,_⟩:=hm.bl b _ hl;rw[h1] at h2;cases h2;exact⟨hl,some (B,0),⟨rfl,⟨B,rfl,rfl⟩⟩,.inl h1.symm⟩
    .cases h
   .cases h
  .cases h
 .cases h
def Vr {sb:SB}(hb:BR X b sb){l n:A}{k:LK}{q:Option (Nat×Nat)}{v:Value}(h:LnB X sb l n q v k)(hq:q=X.ρ b\/q=none):Sp X.e (Xm k l n) λlc=>∃p,lc.ev X.e=some p/\ LenR X.w X.S k.b q v p:=by
 cases k with
 |lst z=>exact .ret (D9 hb h.1 h.2 hq)
 |map ka nk va=>exact .ret (D9 hb h.1 h.2 hq)
 |pre z=>
  obtain⟨⟨nl,rfl⟩,⟨hz,n',h1,h2⟩,els,ni,h3,h4,h5⟩:=h;rw[h1] at h4;have:=gE h4;subst this;refine Sp.emit.mono λlc hl=>?_;obtain⟨u,g1,g2⟩:=kI hl h3 (show A.ev X.e (.c (.i64 0))=some (.i64 0) from rfl) h1
  obtain⟨_,rfl⟩:=dq g1;simp only[aG,Int.toNat_zero,dz] at g2;refine⟨_,g2,?_⟩;have hlen:(els.take n').length=n':=by rw[aR];omega
  rcases h2 with⟨B,lim,cap,rfl,rfl,h6,h7⟩|⟨rfl,rfl,h8⟩
  .have hq:X.ρ b=some (B,lim):=hq.elim wv λh=>(by cases h);obtain⟨_,els',k1,k2,k3,k4⟩:=hb;rw[h3] at k1;cases k1;rcases k4 with⟨_,k4⟩|⟨B',arr,k4,k5,k6⟩
   .rw[hq] at k4;cases k4
   .rw[hq] at k4;cases k4;have hr:=k6.f2.take (n'*z);rw[dG,bM (cB _ h5),jU k3.l] at hr;have:=LenR.lst (w:=X.w) (S:=X.S) (z:=z) (els:=els.take n') hz (by rw[hlen];exact h6) h7 k5 (k3.t _) (by rw[hlen];exact RTs.of hr);rw[hlen] at this;exact this
  .rw[g9];exact .nil hz h8
def Vs {sb:SB}(hb:BR X b sb){l n y:A}{k:LK}{q:Option (Nat×Nat)}{v:Value}{p:PV}{w':World}{S':Nat->Prop}(h:LnB X sb l n q v k)(hq:q=X.ρ b\/q=none)(hL:LenR w' S' k.b q v p)(hy:y.ev X.e=some p)(ht:C4 X.w w' q v k)(kp:Kp X.w X.S w' S')(hfr:q=none->∀B l,X.ρ b=some (B,l)->w'.heap[B]?=X.w.heap[B]?):Sp X.e (Xn k l y) λc=>∀σ',BR {X with w:=w',S:=S',σ:=σ'} b (sj sb c):=by
 cases k with
 |lst z=>exact .ret λσ'=>Xt (X1:={X with w:=w',S:=S',σ:=σ'}) hb h.1 h.2 hq hL hy rfl rfl hfr
 |map ka nk va=>exact .ret λσ'=>Xt (X1:={X with w:=w',S:=S',σ:=σ'}) hb h.1 h.2 hq hL hy rfl rfl hfr
 |pre z=>
  obtain⟨⟨nl,rfl⟩,⟨hz,n',h1,h2⟩,els,ni,h3,h4,h5⟩:=h;rw[h1] at h4;have:=gE h4;subst this;refine Sp.emit.mono λc hc σ'=>?_;obtain⟨_,els0,k1,k2,k3,k4⟩:=hb;rw[h3] at k1;cases k1;have hnew:∀els':List (List PV),p= .sl els'->els'.length=n'->c.ev X.e=some (.sl (els'++els.drop n')):=λels' e e'=>by
   subst e;obtain⟨u,g1,g2⟩:=kI hc h3 (show A.ev X.e (.c (.i64 0))=some (.i64 0) from rfl) hy
   obtain⟨_,rfl⟩:=dq g1;rw[g2];simp[e']
  cases hL with
  | @lst _ B cap arr' els' hz hcap hl hr hw he=>
   rcases h2 with⟨B0,lim,cap',e1,e2,_⟩|⟨e1,_⟩
   .cases e2;cases e1;have hq:X.ρ b=some (B,arr'.size):=hq.elim wv λh=>(by cases h);rcases k4 with⟨_,k4⟩|⟨B',arr,k4,k5,k6⟩
    .rw[hq] at k4;cases k4
    .rw[hq] at k4;simp only[bZ,yb] at k4;obtain⟨rfl,k7⟩:=k4;have htl:=ht B arr'.size _ _ rfl rfl arr arr' k5 hr;have hlen:(els'++els.drop els'.length).length=els.length:=by simp;omega
     refine⟨hz,_,hnew els' rfl rfl,by rw[hlen];exact k2,hw.app (k3.d _),.inr ⟨B,arr',hq,hr,?_⟩⟩;rw[hlen,ef];have e1:arr'.toList.take (els.length*z)=arr'.toList.take (els'.length*z)++(arr.toList.drop (els'.length*z)).take (els.length*z-els'.length*z):=by
      rw[<-htl,<-eU];have:arr'.toList.take (els'.length*z)=(arr'.toList.take (els.length*z)).take (els'.length*z):=by rw[dG,bM (cB _ h5)]
      rw[this,iF]
     show RTs w' S' _ _
     rw[e1];refine .of (he.f2.append ?_);have h6:=(k6.f2.mono λ_ _ h=>h.mono kp).drop (els'.length*z);rw[eU,mT k3.l] at h6;exact h6
   .cases e1
  |nil hz' hn=>
   rcases h2 with⟨B,lim,cap,e1,_⟩|⟨_,rfl,_⟩
   .cases e1
   .refine⟨hz,els,by simpa using hnew [] rfl rfl,k2,k3,?_⟩
    rcases k4 with⟨k4,k5⟩|⟨B',arr,k4,⟨ty,fz,k5,k6⟩,k7⟩
    .exact .inl ⟨k4,k5⟩
    .exact .inr ⟨B',arr,k4,⟨ty,fz,by show w'.heap[B']?=_;rw[hfr rfl _ _ k4];exact k5,k6⟩,k7.mono kp⟩
def YB (hm:MR X base L){w':World}{S':Nat->Prop}{b:Nat}{sb sb':SB}{q:Option (Nat×Nat)}(hl:look X.σ.bl b=some sb)(hq:q=X.ρ b\/q=none)(hf:frz sb=false)(hf':frz sb'=false)(hk:kd sb'=kd sb)(kp:Kp X.w X.S w' S')(cur:∀B,S' B->B<w'.heap.size)(new:∀B,S' B->X.S B\/X.w.heap.size<=B){Q:Nat->Prop}(fr:Frm X.w.heap.size Q X.w w')(hQ:∀B,B<X.w.heap.size->Q B->Lof q B)(hd:¬L base->¬Q X.w.heap.size)
  (hbr:BR {X with w:=w',S:=S',σ:=X.σ.lent b sb'} b sb'):Nx X base L {X with w:=w',S:=S',σ:=X.σ.lent b sb'}:=by
 have sx:Sx X {X with w:=w',S:=S',σ:=X.σ.lent b sb'}:=⟨⟨[],by simp⟩,λ_ _=>rfl,kp,λ_ _ _ h=>h,λ_ h=>h⟩
 have hlook:∀b' s,look (X.σ.lent b sb').bl b'=some s->(b'=b/\ s=sb')\/(b'≠b/\ look X.σ.bl b'=some s):=λb' s h=>by
  have h:look (put X.σ.bl b sb') b'=some s:=h;rw[dO] at h;split at h
  .rename_i e;cases h;exact .inl ⟨e,rfl⟩
  .rename_i e;exact .inr ⟨e,h⟩
 have hqB:∀B,Lof q B->∃l,X.ρ b=some (B,l):=λB ⟨l,h⟩=>hq.elim (λe=>⟨l,e.symm.trans h⟩) λe=>by rw[e] at h;cases h
 refine⟨sx,⟨λb' s h=>?_,λb' s h=>?_,hm.fr,λb' s h=>?_,λb' s B l h hr=>?_,λb1 b2 s1 s2 B l l' h h' hr hr'=>?_,cur,bG hm.hb fr.size,hm.sz,hm.fc⟩,⟨fr.os,fr.tape,fr.output,fr.size,λi hi hL=>?_,λh=>fr.drawn (hd h)⟩,λB hB=>?_,rfl,rfl,aB _,λ_ h=> .inl h,λb' _ h=>⟨rfl,?_⟩⟩
 .rcases hlook b' s h with⟨rfl,_⟩|⟨_,h⟩
  .exact hm.lt _ _ hl
  .exact hm.lt _ _ h
 .rcases hlook b' s h with⟨rfl,rfl⟩|⟨_,h⟩
  .exact(hm.kd _ _ hl).trans (by rw[hk])
  .exact hm.kd _ _ h
 .rcases hlook b' s h with⟨rfl,rfl⟩|⟨hne,h⟩
  .exact hbr
  .exact(hm.bl b' s h).step sx (hm.lt b' s h) λB l hr=>fr.block B (ey hm h hr) λhB=>by
    obtain⟨l',h'⟩:=hqB B (hQ B (ey hm h hr) hB);exact hne (hm.inj _ _ _ _ _ _ _ h hl hr h')
 .have key:∀s0,look X.σ.bl b'=some s0->frz s=frz s0->(base<=B\/L B)/\(S' B↔frz s=true):=λs0 h0 e=>by
   obtain⟨h1,h2⟩:=hm.own b' s0 B l h0 hr;rw[e];refine⟨h1,zH ⟨λhB=>?_,kp.sub B⟩ h2⟩;exact(new B hB).elim id λhB=>absurd (ey hm h0 hr) (by omega)
  rcases hlook b' s h with⟨rfl,rfl⟩|⟨hne,h⟩
  .exact key sb hl (by rw[hf,hf'])
  .exact key s h rfl
 .have un:∀b' s,look (X.σ.lent b sb').bl b'=some s->∃s0,look X.σ.bl b'=some s0:=λb' s h=>by
   rcases hlook b' s h with⟨rfl,_⟩|⟨_,h⟩
   .exact⟨_,hl⟩
   .exact⟨_,h⟩
  obtain⟨_,g1⟩:=un _ _ h;obtain⟨_,g2⟩:=un _ _ h';exact hm.inj _ _ _ _ _ _ _ g1 g2 hr hr'
 .refine fr.block i (cd hi hm.hb) λhB=>?_;obtain⟨l,h⟩:=hqB i (hQ i (cd hi hm.hb) hB);rcases(hm.own b sb i l hl h).1 with h1|h1
  .omega
  .exact hL h1
 .exact(new B hB).imp id λhB=> .inl (bG hm.hb hB)
 .show look (put X.σ.bl b sb') b'=none
  rw[dO];split
  .rename_i e;subst e;rw[hl] at h;cases h
  .exact h
def Ea (c:Nat)(v:Value):Value->Value
 | .agg a=> .agg (a.setIfInBounds c v)
 |_=>v
def qO (ld:Ld)(v:Value)(vs:List Value):List Value:=vs.modify ld.i (Ea ld.c v)
def F2.set {α β:Type}{R:α->β->Prop}:∀{as:List α} {bs:List β} {i:Nat} {a:α} {b:β},F2 R as bs->R a b->F2 R (as.set i a) (bs.set i b)
 |_,_,i,_,_,.nil,_=>by simp;exact .nil
 |_,_,0,_,_,.cons _ t,k=> .cons k t
 |_,_,_+1,_,_,.cons h t,k=> .cons h (t.set k)
def Vt {c:Nat}{u:Value}{w w':SW}{x:SC}(hu:WR X u w)(h:OW c w=some (x,w')):∃u0 v,WR X u0 w'/\ CR X v x/\ u=Ea c v u0:=by
 unfold OW at h;split at h
 .split at h
  .cases h;exact⟨.slice none 0 0,u,.c (.nil (.inl rfl)),hu.inv,rfl⟩
  .cases h
 .split at h
  .rename_i cs y hy;cases h;cases hu with
   |agg hu=>
    rename_i a;obtain⟨v,h1,h2⟩:=hu.get' c x hy;refine⟨.agg (a.setIfInBounds c (.slice none 0 0)),v,.agg ?_,h2,?_⟩
    .rw[f9];exact hu.set (.nil (.inl rfl))
    .have hlt:=(aC.1 h1).1;have:(a.setIfInBounds c (.slice none 0 0)).setIfInBounds c v=a:=by
      apply lF.1;rw[f9,f9,kV];apply c8;intro i;rw[nT];split
      .rename_i e;subst e;simp only[hlt,az] at*;exact h1.symm
      .rfl
     simp only[Ea,this]
  .cases h
 .cases h
def E3 {c:Nat}{x:SC}:∀{i:Nat} {ws ws':List SW} {vs:List Value},F2 (WR X) vs ws->vU c i ws=some (x,ws')->∃vs0 v,F2 (WR X) vs0 ws'/\ CR X v x/\ vs=vs0.modify i (Ea c v)
 |i,[],_,_,_,h=>by cases i<;>simp[vU] at h
 |0,w::ws,ws',_,.cons hu t,h=>by
  unfold vU at h;split at h
  .rename_i x' w' hw;cases h;obtain⟨u0,v,h1,h2,rfl⟩:=Vt hu hw;exact⟨_::_,v,.cons h1 t,h2,rfl⟩
  .cases h
 |i+1,w::ws,ws',_,.cons hu t,h=>by
  unfold vU at h;split at h
  .rename_i x' w' hw;cases h;obtain⟨vs0,v,h1,h2,rfl⟩:=E3 t hw;exact⟨_::vs0,v,.cons hu h1,h2,rfl⟩
  .cases h
end
def Kv (w:World)(S:Nat->Prop)(z B:Nat)(v:Value)(els:List (List PV)):Prop:=∃cap arr,v= .slice (some ⟨B,0,none⟩) els.length cap/\(els.length<=cap/\ cap<=9223372036854775807)/\ cap*z<=arr.size/\ Row w B arr/\ Rw z els/\ RTs w S (arr.toList.take (els.length*z)) els.flatten
inductive RO (w:World)(S:Nat->Prop):List eN->List Value->List PV->List Nat->Prop
 |nil:RO w S [] [] [] []
 |tree {ss:List eN} {v:Value} {vs:List Value} {p:PV} {ps:List PV} {Bs:List Nat} (h:RT w S v p) (h0:t0 p=true) (t:RO w S ss vs ps Bs):RO w S (none::ss) (v::vs) (p::ps) Bs
 |own {ss:List eN} {z B:Nat} {v:Value} {vs:List Value} {els:List (List PV)} {ps:List PV} {Bs:List Nat} (hz:0<z) (h:Kv w S z B v els) (t:RO w S ss vs ps Bs):RO w S (some z::ss) (v::vs) (.sl els::ps) (B::Bs)
 |none {ss:List eN} {z:Nat} {v:Value} {vs:List Value} {ps:List PV} {Bs:List Nat} (hz:0<z) (h:iT v) (t:RO w S ss vs ps Bs):RO w S (some z::ss) (v::vs) (.sl []::ps) Bs
def RR (P:Program)(w:World)(S:Nat->Prop)(t:TypeId)(ts:List eN)(v:Value)(p:PV)(Bs:List Nat):Prop:=
 match b7 P t with
 |some true=>∃a cs,v= .agg a/\ p= .agg cs/\ cs.all t0=true/\((ts=[]/\ Bs=[]/\ RTs w S a.toList cs)\/RO w S ts a.toList cs Bs)
 |some false=>(ts=[]/\ Bs=[]/\ RT w S v p/\ t0 p=true)\/RO w S ts [v] [p] Bs
 |none=>False
inductive RRs (P:Program)(w:World)(S:Nat->Prop):List TypeId->List (List eN)->List Value->List PV->List Nat->Prop
 |nil {ts:List (List eN)}:RRs P w S [] ts [] [] []
 |cons {t:TypeId} {tys:List TypeId} {ts:List (List eN)} {v:Value} {vs:List Value} {p:PV} {ps:List PV} {Bs Cs:List Nat} (h:RR P w S t (ts.headD []) v p Bs) (k:RRs P w S tys ts.tail vs ps Cs):RRs P w S (t::tys) ts (v::vs) (p::ps) (Bs++Cs)
def mw:List Value->Value
 |[v]=>v
 |vs=> .tuple vs.toArray
structure Aft (D:Dcf)(fn:Func)(g:FuncId)(w:World)(S Q G:Nat->Prop)(rs:List PV)(u:Value)(w':World)(S':Nat->Prop)(us:List Value)(Bs:List Nat):Prop where
 u:u=mw us
 rr:RRs D.P w' S' fn.resultTypes.toList (D.slots g) us rs Bs
 nd:Bs.Nodup
 own:∀B∈Bs,(w.heap.size<=B\/G B)/\¬S' B/\ B<w'.heap.size
 kp:Kp w S w' S'
 cur:∀B,S' B->B<w'.heap.size
 new:∀B,S' B->S B\/w.heap.size<=B\/G B
 fr:Frm w.heap.size Q w w'
def GvQ (ld:Ld)(q:Option (Nat×Nat))(B:Nat):Prop:=ld.gv=true/\ Lof q B
def C5 (ld:Ld)(w w':World)(S':Nat->Prop)(q:Option (Nat×Nat))(v:Value)(p':PV):Prop:=match ld.gv with
 |true=>p'= .sl []
 |false=>LenR w' S' ld.k.b q v p'/\ C4 w w' q v ld.k
def Dcf.lf (D:Dcf)(q:Option (Nat×Nat))(w:World)(B:Nat):Prop:=Lof q B\/(D.loud=true/\ w.heap.size<=B)
def Pb {D:Dcf}{q:Option (Nat×Nat)}{w:World}{B:Nat}(hb:B<w.heap.size)(h:D.lf q w B):Lof q B:=h.resolve_right λh=>oP hb h.2
def Ah {D:Dcf}{w:World}{B:Nat}(hb:B<w.heap.size):¬D.lf none w B:=λh=>by
 obtain⟨_,h⟩:=Pb hb h;cases h
def C6 {D:Dcf}{q:Option (Nat×Nat)}{w:World}{base:Nat}{L:Nat->Prop}(hd:D.loud=true->L base)(hq:∀B,Lof q B->B<w.heap.size)(hL:¬L base):¬D.lf q w w.heap.size:=λh=>h.elim (λh=>di _ (hq _ h)) λh=>hL (hd h.1)
def Kw {w:World}:∀B,Lof none B->B<w.heap.size:=λ_ ⟨_,h⟩=>by cases h
def afn {D:Dcf}{q:Option (Nat×Nat)}{w w':World}{Q:Nat->Prop}(hf:Frm w.heap.size Q w w')(hQ:∀B,Q B->B<w.heap.size/\ Lof q B):Frm w.heap.size (D.lf q w) w w':=⟨hf.os,hf.tape,hf.output,hf.size,λk h1 h2=>hf.block k h1 λh=>h2 (.inl (hQ k h).2),λ_=>hf.drawn λh=>di _ (hQ _ h).1⟩
def jo (D:Dcf)(g:FuncId)(ps rs:List PV):Prop:=∃fn,D.P.funcs[g]?=some fn/\ fn.body≠none/\ fn.name≠ "runtime.NumGoroutine" /\ rs.length=D.nr g fn/\ match D.lend g with
 |none=>∀(w:World) (S:Nat->Prop) (vs:Array Value),F2 (RT w S) vs.toList ps->(∀B,S B->B<w.heap.size)->
  Calls D.P g vs w λe w'=>∃u S' us Bs,e= .returned u/\ Aft D fn g w S (D.lf none w) (λ_=>False) rs u w' S' us Bs
 |some ld=>∃ps0 p rs0 p',ps=ps0++[p]/\ rs=rs0++[p']/\∀(w:World) (S:Nat->Prop) (vs:List Value) (q:Option (Nat×Nat)) (v:Value),F2 (RT w S) vs ps0->LenR w S ld.k.b q v p->(∀B,Lof q B->¬S B)->(∀B,S B->B<w.heap.size)->
  Calls D.P g (qO ld v vs).toArray w λe w'=>∃u S' us Bs,e= .returned u/\ Aft D fn g w S (D.lf q w) (GvQ ld q) rs0 u w' S' us Bs/\ C5 ld w w' S' q v p'
def jo.plain {D:Dcf}{g:FuncId}{ps rs:List PV}(h:jo D g ps rs)(hl:D.lend g=none):∃fn,D.P.funcs[g]?=some fn/\ fn.body≠none/\ fn.name≠ "runtime.NumGoroutine" /\ rs.length=fn.resultTypes.size/\∀(w:World) (S:Nat->Prop) (vs:Array Value),F2 (RT w S) vs.toList ps->(∀B,S B->B<w.heap.size)->
  Calls D.P g vs w λe w'=>∃u S' us Bs,e= .returned u/\ Aft D fn g w S (D.lf none w) (λ_=>False) rs u w' S' us Bs:=by
 obtain⟨fn,h1,h2,h3,h4,h5⟩:=h;unfold Dcf.nr at h4;rw[hl] at h4 h5;exact⟨fn,h1,h2,h3,h4,h5⟩
def jo.lent {D:Dcf}{g:FuncId}{ps rs:List PV}(h:jo D g ps rs){ld:Ld}(hl:D.lend g=some ld):∃fn ps0 p rs0 p',D.P.funcs[g]?=some fn/\ fn.body≠none/\ fn.name≠ "runtime.NumGoroutine" /\ rs0.length=fn.resultTypes.size/\ ps=ps0++[p]/\ rs=rs0++[p']/\∀(w:World) (S:Nat->Prop) (vs:List Value) (q:Option (Nat×Nat)) (v:Value),F2 (RT w S) vs ps0->LenR w S ld.k.b q v p->(∀B,Lof q B->¬S B)->(∀B,S B->B<w.heap.size)->
  Calls D.P g (qO ld v vs).toArray w λe w'=>∃u S' us Bs,e= .returned u/\ Aft D fn g w S (D.lf q w) (GvQ ld q) rs0 u w' S' us Bs/\ C5 ld w w' S' q v p':=by
 obtain⟨fn,h1,h2,h3,h4,h5⟩:=h;unfold Dcf.nr at h4;rw[hl] at h4 h5;obtain⟨ps0,p,rs0,p',rfl,rfl,h5⟩:=h5;exact⟨fn,ps0,p,rs0,p',h1,h2,h3,by simpa using h4,rfl,rfl,h5⟩
section
variable {X:Cx}{P:Program}{base:Nat}{L:Nat->Prop}
def YC (hm:MR X base L)(hN:X.σ.nb<X.N){z B:Nat}{v:Value}{els:List (List PV)}{c n:A}(hz:0<z)(h:Kv X.w X.S z B v els)(hB:base<=B\/L B)(hS:¬X.S B)(hfree:∀b sb l,look X.σ.bl b=some sb->X.ρ b≠some (B,l))(hc:c.ev X.e=some (.sl els))(hn:n.ev X.e=some (.i64 els.length)):
  ∃X',X'.w=X.w/\ X'.S=X.S/\ CR X' v (.lsl X.σ.nb (.c (.i64 0)) n)/\ Nx X base L X'/\ X'.σ=X.σ.new (.lst c n z false)/\∀b sb l B',look X'.σ.bl b=some sb->X'.ρ b=some (B',l)->B'=B\/∃sb',look X.σ.bl b=some sb'/\ X.ρ b=some (B',l):=by
 obtain⟨cap,arr,rfl,h1,h2,⟨ty,fz,hg,hf⟩,h4,h5⟩:=h;have hx:Nx X base L (X.nw X.w (some (B,arr.size)) (.lst c n z false)):=by
  refine vY hm (b0:=X.σ.nb) (B0:=B) (sb0:= .lst c n z false) (λb sb' hne h=>⟨by simpa [SS.new,dO,hne] using h,jV hne⟩) (by simp[SS.new,dO]) upR_self rfl (λb hb=>jV λe=>hm.fr _ (aB _) hN (e▸hb)) (λ_ h=> .inl h) (.inr rfl) (λb hb hn h=>h.elim (hm.fr b (rR hb) hn) λe=>by subst e;exact di _ hb) (eE _) (λb h=>h.elim .inl λe=> .inr (by subst e;exact⟨aB _,hG _⟩))
   (λb hb=> .inl ⟨jV λe=>hm.fr _ (aB _) hN (e▸hb),.inl λe=>hm.fr _ (aB _) hN (e▸hb)⟩) (λB' l h=>by rw[upR_self] at h;cases h;rfl) hB hS (λb sb' l hne h=>hfree b sb' l (by simpa [SS.new,dO,hne] using h)) .refl rfl rfl λsx=>?_
  exact⟨hz,els,hc,hn,h4,.inr ⟨B,arr,upR_self,⟨ty,fz,hg,hf⟩,h5⟩⟩
 refine⟨X.nw X.w (some (B,arr.size)) (.lst c n z false),rfl,rfl,.lsl (.inr rfl) rfl λnl' z' h=>?_,hx,rfl,λb sb l B' h hr=>?_⟩
 .cases upR_self.symm.trans h;exact⟨0,els.length,els.length,rfl,hn,hn,by omega,.inl ⟨B,arr.size,cap,upR_self,by simp,by omega,by simpa using h2⟩⟩
 .have h':look (put X.σ.bl X.σ.nb (.lst c n z false)) b=some sb:=h;have hr':upR X.ρ X.σ.nb (some (B,arr.size)) b=some (B',l):=hr;rw[dO] at h';unfold upR at hr';by_cases e:b=X.σ.nb
  .rw[ad e] at hr';cases hr';exact .inl rfl
  .rw[ac e] at h' hr';exact .inr ⟨sb,h',hr'⟩
def nS (X:Cx)(base:Nat)(L:Nat->Prop)(Bs:List Nat):Prop:=Bs.Nodup/\∀B∈Bs,(base<=B\/L B)/\¬X.S B/\∀b sb l,look X.σ.bl b=some sb->X.ρ b≠some (B,l)
structure Tkn (X:Cx)(base:Nat)(L:Nat->Prop)(X':Cx)(Bs:List Nat):Prop where
 nx:Nx X base L X'
 w:X'.w=X.w
 S:X'.S=X.S
 nb:X.σ.nb<=X'.σ.nb
 tk:∀b sb l B',look X'.σ.bl b=some sb->X'.ρ b=some (B',l)->B'∈Bs\/∃sb',look X.σ.bl b=some sb'/\ X.ρ b=some (B',l)
def Tkn.trans {X' X'':Cx}{Bs Cs:List Nat}(h:Tkn X base L X' Bs)(k:Tkn X' base L X'' Cs):Tkn X base L X'' (Bs++Cs):=⟨h.nx.trans k.nx,k.w.trans h.w,k.S.trans h.S,bG h.nb k.nb,λb sb l B' h1 h2=>by
 rcases k.tk b sb l B' h1 h2 with h3|⟨sb',h3,h4⟩
 .exact .inl (gq _ h3)
 .exact(h.tk b sb' l B' h3 h4).imp (dP _) id⟩
def nS.rest {X':Cx}{Bs Cs:List Nat}(h:nS X base L (Bs++Cs))(k:Tkn X base L X' Bs):nS X' base L Cs:=by
 obtain⟨h1,h2⟩:=h;rw[eY] at h1;refine⟨h1.2.1,λB hB=>?_⟩;obtain⟨h3,h4,h5⟩:=h2 B (gq _ hB);refine⟨h3,by rw[k.S];exact h4,λb sb l h6 h7=>?_⟩;rcases k.tk b sb l B h6 h7 with h8|⟨sb',h8,h9⟩
 .exact h1.2.2 B h8 B hB rfl
 .exact h5 b sb' l h8 h9
def nS.left {Bs Cs:List Nat}(h:nS X base L (Bs++Cs)):nS X base L Bs:=⟨(eY.1 h.1).1,λB hB=>h.2 B (dP _ hB)⟩
def Tkn.refl (hm:MR X base L):Tkn X base L X []:=⟨.refl hm,rfl,rfl,aB _,λb sb l B' h1 h2=> .inr ⟨sb,h1,h2⟩⟩
def Mh (hm:MR X base L){z:Nat}{v:Value}{p:PV}{c:A}{Bs:List Nat}(hz:0<z)(h:(∃B els,Bs=[B]/\ p= .sl els/\ Kv X.w X.S z B v els)\/(Bs=[]/\ p= .sl []/\ iT v))(hf:nS X base L Bs)(hc:c.ev X.e=some p):
  Sp X.e (J6 X.σ z c) λq=>X.σ.nb<=q.2.nb/\(q.2.nb<=X.N->∃X',CR X' v q.1/\ Tkn X base L X' Bs/\ X'.σ=q.2):=by
 refine Sp.bind Sp.emit λn hn=> .ret ⟨eE _,λhN=>?_⟩;obtain⟨els',rfl,n1⟩:=gV hn hc;rcases h with⟨B,els,rfl,e,ho⟩|⟨rfl,e,hn⟩
 .cases e;obtain⟨h1,h2,h3⟩:=hf.2 B (by simp);obtain⟨X',w1,w2,w3,w4,w5,w6⟩:=YC hm hN hz ho h1 h2 h3 hc n1;exact⟨X',w3,⟨w4,w1,w2,by rw[w5];exact eE _,λb sb l B' h h'=>(w6 b sb l B' h h').imp (λe=>by simp[e]) id⟩,w5⟩
 .cases e;obtain⟨w1,w2⟩:=Ko hm hN hn hz hc n1 n1;refine⟨_,w1,⟨w2,rfl,rfl,eE _,λb sb l B' h hr=> .inr ?_⟩,rfl⟩;have h':look (put X.σ.bl X.σ.nb (.lst c n z false)) b=some sb:=h;have hr':upR X.ρ X.σ.nb none b=some (B',l):=hr;rw[dO] at h';unfold upR at hr';by_cases e:b=X.σ.nb
  .rw[ad e] at hr';cases hr'
  .rw[ac e] at h' hr';exact⟨sb,h',hr'⟩
def xy {e:List PV}{y:A}:∀{ts:List eN} {σ:SS} {i:Nat},Sp e (Ab σ y i ts) λq=>σ.nb<=q.2.nb
 |[],σ,i=> .ret (aB _)
 |some z::ts,σ,i=>Sp.bind (P:=λ_=>True) (Sp.emit.mono λ_ _=>trivial) λc _=>Sp.bind (P:=λ(q:SC×SS)=>σ.nb<=q.2.nb) (Sp.bind (P:=λ_=>True) (Sp.emit.mono λ_ _=>trivial) λn _=> .ret (eE _)) λp hp=>Sp.bind xy λq hq=> .ret (bG hp hq)
 |none::ts,σ,i=>Sp.bind (xy (ts:=ts)) λq hq=> .ret hq
def A6:∀{ts:List eN} {X:Cx} (_:MR X base L) {y:A} {cs:List PV} {i:Nat} {vs:List Value} {ps:List PV} {Bs:List Nat},RO X.w X.S ts vs ps Bs->nS X base L Bs->y.ev X.e=some (.agg cs)->cs.all t0=true->cs.drop i=ps->
  Sp X.e (Ab X.σ y i ts) λq=>q.2.nb<=X.N->∃X',F2 (CR X') vs q.1/\ Tkn X base L X' Bs/\ X'.σ=q.2
 |[],X,hm,y,cs,i,vs,ps,Bs,h,hf,hy,ht,hd=>by
  cases h;exact .ret λ_=>⟨X,.nil,.refl hm,rfl⟩
 |s::ts,X,hm,y,cs,i,vs,ps,Bs,h,hf,hy,ht,hd=>by
  have own:∀{z:Nat} {v:Value} {vs:List Value} {p:PV} {ps:List PV} {Bs Cs:List Nat},0<z->((∃B els,Bs=[B]/\ p= .sl els/\ Kv X.w X.S z B v els)\/(Bs=[]/\ p= .sl []/\ iT v))->RO X.w X.S ts vs ps Cs->nS X base L (Bs++Cs)->cs.drop i=p::ps->
    Sp X.e (Ab X.σ y i (some z::ts)) λq=>q.2.nb<=X.N->∃X',F2 (CR X') (v::vs) q.1/\ Tkn X base L X' (Bs++Cs)/\ X'.σ=q.2:=by
   intro z v vs p ps Bs Cs hz h1 h2 hf hd;obtain⟨hp,hd'⟩:=yZ hd;refine Sp.bind Sp.emit λc hc=>?_;obtain⟨u,g1,g2⟩:=iW hc hy;simp only[RF.ev] at g1;rw[hp] at g1;cases g1;refine Sp.bind (Mh hm hz h1 hf.left g2) λq ⟨hnb,hq⟩=>?_;by_cases hN:q.2.nb<=X.N
   .obtain⟨X',k1,k2,k3⟩:=hq hN;rw[<-k3,<-k2.nx.e];refine Sp.bind (A6 k2.nx.mr (by rw[k2.w,k2.S];exact h2) (hf.rest k2) (k2.nx.sx.ev hy) ht hd') λr hr=> .ret λhN'=>?_;obtain⟨X'',m1,m2,m3⟩:=hr (by rw[k2.nx.N];exact hN');exact⟨X'',.cons (k1.step m2.nx.sx) m1,k2.trans m2,m3⟩
   .exact Sp.bind xy λr hr=> .ret λhN'=>absurd (bG hr hN') hN
  cases h with
  |tree h h0 t=>
   obtain⟨hp,hd'⟩:=yZ hd;refine Sp.bind (A6 hm t hf hy ht hd') λq q2=> .ret λhN=>?_;obtain⟨X',k1,k2,k3⟩:=q2 hN;exact⟨X',.cons ((CR.pc hy ht hp h).step k2.nx.sx) k1,k2,k3⟩
  |own hz h t=>exact own hz (.inl ⟨_,_,rfl,rfl,h⟩) t hf hd
  |none hz h t=>exact own (Bs:=[]) hz (.inr ⟨rfl,rfl,h⟩) t hf hd
def YD {e:List PV}{t:TypeId}{ts:List eN}{y:A}{σ:SS}:Sp e (J7 P σ t ts y) λq=>σ.nb<=q.2.nb:=by
 have own:∀{z:Nat} {c:A},Sp e (J6 σ z c) λq=>σ.nb<=q.2.nb:=Sp.bind (P:=λ_=>True) (Sp.emit.mono λ_ _=>trivial) λn _=> .ret (eE _);unfold J7;split
 .split
  .exact .ret (aB _)
  .refine Sp.bind (P:=λ_=>True) ?_ λy' _=>Sp.bind xy λq hq=> .ret hq;unfold q9;refine Sp.bind Sp.sizeOf λk _=>?_;split
   .split
    .exact .ret trivial
    .exact .fail
   .refine(Sp.emitN λvs v h1 h2=>?_).mono λ_ _=>trivial;simp only[RF.ev] at h2;split at h2
    .obtain⟨hl,rfl⟩:=dq h2;exact⟨_,rfl,hl⟩
    .cases h2
 .split
  .exact .ret (aB _)
  .exact Sp.bind own λq hq=> .ret hq
  .exact .fail
 .exact .fail
def Kx {e:List PV}:∀{tys:List TypeId} {ts:List (List eN)} {y:Nat} {σ:SS},Sp e (Ac P σ tys ts y) λq=>σ.nb<=q.2.nb
 |[],_,_,_=> .ret (aB _)
 |_::_,_,_,_=>Sp.bind YD λp hp=>Sp.bind Kx λq hq=> .ret (bG hp hq)
def YE (hm:MR X base L){t:TypeId}{ts:List eN}{y:A}{v:Value}{p:PV}{Bs:List Nat}(h:RR P X.w X.S t ts v p Bs)(hf:nS X base L Bs)(hy:y.ev X.e=some p):
  Sp X.e (J7 P X.σ t ts y) λq=>q.2.nb<=X.N->∃X',WR X' v q.1/\ Tkn X base L X' Bs/\ X'.σ=q.2:=by
 unfold RR at h;unfold J7;split
 .rename_i ha;rw[ha] at h;obtain⟨a,cs,rfl,rfl,ht,h⟩:=h;split
  .rcases h with⟨_,rfl,h⟩|h
   .exact .ret λ_=>⟨X,.av hy ht h,.refl hm,rfl⟩
   .generalize ha':a.toList=l at h;cases h;exact .ret λ_=>⟨X,.av hy ht (by rw[ha'];exact .nil),.refl hm,rfl⟩
  .rename_i hne;rcases h with⟨h,_,_⟩|h
   .exact absurd h hne
   .refine Sp.bind (rc hy) λy' ⟨h1,h2⟩=>Sp.bind (A6 hm h hf h1 ht (dz)) λq hq=> .ret λhN=>?_;obtain⟨X',k1,k2,k3⟩:=hq hN;exact⟨X',.agg k1,k2,k3⟩
 .rename_i ha;rw[ha] at h;simp only at h;split
  .rcases h with⟨_,rfl,h,h0⟩|h
   .exact .ret λ_=>⟨X,.c (.a hy h0 h),.refl hm,rfl⟩
   .cases h
  .rename_i z;rcases h with⟨h,_⟩|h
   .cases h
   .have fin:∀{Bs:List Nat},0<z->nS X base L Bs->((∃B els,Bs=[B]/\ p= .sl els/\ Kv X.w X.S z B v els)\/(Bs=[]/\ p= .sl []/\ iT v))->Sp X.e (EM.bind (J6 X.σ z y) λp=>EM.ret (SW.c p.1,p.2)) λq=>q.2.nb<=X.N->∃X',WR X' v q.1/\ Tkn X base L X' Bs/\ X'.σ=q.2:=λhz hf h=>Sp.bind (Mh hm hz h hf hy) λq ⟨_,hq⟩=> .ret λhN=>let⟨X',k1,k2,k3⟩:=hq hN;⟨X',.c k1,k2,k3⟩
    cases h with
    |own hz h t=>cases t;exact fin hz hf (.inl ⟨_,_,rfl,rfl,h⟩)
    |none hz h t=>cases t;exact fin hz hf (.inr ⟨rfl,rfl,h⟩)
  .exact .fail
 .exact .fail
def ti:∀{tys:List TypeId} {X:Cx} (_:MR X base L) {ts:List (List eN)} {y:Nat} {vs:List Value} {ps:List PV} {Bs:List Nat},RRs P X.w X.S tys ts vs ps Bs->nS X base L Bs->(∀i p,ps[i]?=some p->X.e[y+i]?=some p)->
  Sp X.e (Ac P X.σ tys ts y) λq=>q.2.nb<=X.N->∃X',F2 (WR X') vs q.1/\ Tkn X base L X' Bs/\ X'.σ=q.2
 |[],X,hm,ts,y,vs,ps,Bs,h,hf,hy=>by
  cases h;exact .ret λ_=>⟨X,.nil,.refl hm,rfl⟩
 |t::tys,X,hm,ts,y,vs,ps,Bs,h,hf,hy=>by
  cases h with
  |cons h k=>
   refine Sp.bind (YE hm h hf.left (hy 0 _ rfl)) λq hq=>?_;by_cases hN:q.2.nb<=X.N
   .obtain⟨X',k1,k2,k3⟩:=hq hN;rw[<-k3,<-k2.nx.e];refine Sp.bind (ti k2.nx.mr (by rw[k2.w,k2.S];exact k) (hf.rest k2) (λi p hp=>by rw[k2.nx.e,dK,qf 1];exact hy (i+1) p hp)) λr hr=> .ret λhN'=>?_;obtain⟨X'',m1,m2,m3⟩:=hr (by rw[k2.nx.N];exact hN');exact⟨X'',.cons (k1.step m2.nx.sx) m1,k2.trans m2,m3⟩
   .exact Sp.bind Kx λr hr=> .ret λhN'=>absurd (bG hr hN') hN
def sJ {vs:List Value}{ws:List SW}(h:F2 (WR X) vs ws):VR X (mw vs) (xm ws):=by
 cases h with
 |nil=>exact .tup .nil
 |cons h t=>cases t with
  |nil=>exact .w h
  |cons h' t=>exact .tup (.cons h (.cons h' t))
def Eb (tmps:Array Value):ResultVar->Sem Value
 | .tmp t=>pure (tmps.getD t undef)
 | .cell a t=>do loadVar t (<-asAddr (tmps.getD a undef))
def xz (hm:MR X base L){a:Act}(hρ:EvR X a.eval):∀{rs:List ResultVar},Sp X.e (xn P X.σ rs) λws=>∃us,(rs.mapM (Eb a.tmps)).run P X.w= .ok us X.w/\ F2 (WR X) us ws
 |[]=> .ret ⟨[],by simp,.nil⟩
 | .tmp t::rs=>by
  refine Sp.bind (Sp.ofO λw h=>h) λw hw=>Sp.bind (xz hm hρ) λl ⟨us,h1,h2⟩=> .ret ⟨a.tmps.getD t undef::us,?_,.cons (iX hρ hw) h2⟩;have e:(Eb a.tmps (.tmp t)).run P X.w= .ok (a.tmps.getD t undef) X.w:=rfl;simp only[wA,Sem.run_bind,e,Result.andThen_ok,h1,Sem.run_pure]
 | .cell c t::rs=>by
  refine Sp.bind (Sp.ofO λw h=>h) λp hp=>Sp.bind (Ke (P:=P) hm (eI hρ hp)) λw ⟨v,B,o,k1,k2,k3⟩=>Sp.bind (xz hm hρ) λl ⟨us,h1,h2⟩=> .ret ⟨v::us,?_,.cons k3 h2⟩;have k1':a.tmps.getD c undef= .pointer (some ⟨B,o,none⟩):=k1;have e:(Eb a.tmps (.cell c t)).run P X.w= .ok v X.w:=by
   show(do loadVar t (<-asAddr (a.tmps.getD c undef)):Sem Value).run P X.w=_
   rw[k1'];simp[asAddr,k2]
  simp only[wA,Sem.run_bind,e,Result.andThen_ok,h1,Sem.run_pure]
def Ax {fn:Func}{tmps:Array Value}{us:List Value}{w:World}(h:(fn.results.toList.mapM (Eb tmps)).run P w= .ok us w):(results fn tmps).run P w= .ok (mw us) w:=by
 show(fn.results.mapM (Eb tmps)>>=λvs=>pure (if h:vs.size=1 then vs[0] else .tuple vs):Sem Value).run P w=_
 rw[sy,Sem.run_bind,Sem.run_map,h];simp only[Result.andThen_ok];cases us with
 |nil=>rfl
 |cons u us=>cases us with
  |nil=>rfl
  |cons u' us=>simp[mw]
def Gv (X:Cx)(bs Bs:List Nat):Prop:=(∀b∈bs,∃l nl z,look X.σ.bl b=some (.lst l nl z false))/\∃ns,ns.Sublist bs/\ F2 (λb B=>∃l,X.ρ b=some (B,l)) ns Bs
def Gv.nil:Gv X [] []:=⟨(λ_ h=>by cases h),[],.slnil,.nil⟩
def Gv.app {bs cs Bs Cs:List Nat}(h:Gv X bs Bs)(k:Gv X cs Cs):Gv X (bs++cs) (Bs++Cs):=by
 obtain⟨h1,ns,h2,h3⟩:=h;obtain⟨k1,ms,k2,k3⟩:=k;exact⟨λb hb=>(b9.1 hb).elim (h1 b) (k1 b),ns++ms,h2.append k2,h3.append k3⟩
def RO.cons {w:World}{S:Nat->Prop}{s:eN}{ss:List eN}{v:Value}{vs:List Value}{p:PV}{ps:List PV}{Bs Cs:List Nat}(h:RO w S [s] [v] [p] Bs)(k:RO w S ss vs ps Cs):RO w S (s::ss) (v::vs) (p::ps) (Bs++Cs):=by
 cases h with
 |tree h h0 t=>cases t;exact .tree h h0 k
 |own hz h t=>cases t;exact .own hz h k
 |none hz h t=>cases t;exact .none hz h k
def Ec (hm:MR X base L){s:eN}{c:SC}{v:Value}(h:CR X v c):Sp X.e (J8 X.σ s c) λq=>ir X q.2.1/\∃p,q.1.ev X.e=some p/\ t0 p=true/\∃Bs,Gv X q.2.2 Bs/\∀S',Kp X.w (frS X q.2.1) X.w S'->RO X.w S' [s] [v] [p] Bs:=by
 cases s with
 |none=>
  exact Sp.bind (zc hm h) λq ⟨⟨p,h1,h2,h3⟩,h4⟩=> .ret ⟨h4,p,h1,h2,[],.nil,λS' k=> .tree (h3.mono k) h2 .nil⟩
 |some z=>
  unfold J8;simp only;split
  .cases h with
   |nil h=>
    split
    .rename_i hz;exact .ret ⟨.nil,_,rfl,rfl,[],.nil,λS' k=> .none (by rw[im] at hz;exact hz) h .nil⟩
    .exact .fail
  .rename_i b o n;split
   .rename_i l nl z' hl;split
    .rename_i hc;simp only[aJ] at hc;have:=oX hc.1;subst this;have:=jD hc.2;subst this;cases h with
     |lsl hbm hone h=>
      obtain⟨oi,ni,Ln,e1,e2,e3,e4,e5⟩:=h _ _ (hm.kd _ _ hl);have:oi=0:=(gE (a:=0) (b:=oi) e1).symm;subst this;obtain⟨hz,els,k1,k2,k3,k4⟩:=hm.bl b _ hl;rw[e3] at k2;have:=gE k2;subst this;refine Sp.bind Sp.emit λy hy=>?_;obtain⟨u,g1,g2⟩:=kI hy k1 e1 e2;obtain⟨_,rfl⟩:=dq g1;simp only[aG,Int.toNat_zero,dz] at g2;have hlb:∀b'∈[b],∃l nl z,look X.σ.bl b'=some (.lst l nl z false):=λb' hb'=>by simp at hb';subst hb';exact⟨_,_,_,hl⟩
      rcases e5 with⟨B,lim,cap,f1,rfl,f2,f3⟩|⟨rfl,hn,_⟩
      .rcases k4 with⟨_,k4⟩|⟨B',arr,k4,k5,k6⟩
       .rw[f1] at k4;cases k4
       rw[f1] at k4;cases k4;simp only[tM,cQ] at f2 f3 e4|-;have hlen:(els.take ni).length=ni:=by rw[aR];omega
       refine .ret ⟨.nil,_,g2,rfl,[B],⟨hlb,[b],.refl _,.cons ⟨_,f1⟩ .nil⟩,λS' k=> .own hz ⟨cap,arr,by rw[hlen],by omega,f3,k5,k3.t _,?_⟩ .nil⟩;have h5:=k6.f2.take (ni*z);rw[dG,bM (cB _ e4),jU k3.l] at h5;rw[hlen];exact(RTs.of h5).mono (sH.trans k)
      .rw[g9] at g2;exact .ret ⟨.nil,_,g2,rfl,[],⟨hlb,[],by simp,.nil⟩,λS' k=> .none hz hn .nil⟩
    .exact .fail
   .exact .fail
  .exact .fail
def Ky (hm:MR X base L):∀{ss:List eN} {cs:List SC} {vs:List Value},F2 (CR X) vs cs->Sp X.e (FQ X.σ ss cs) λq=>ir X q.2.1/\∃ps,evs X.e q.1=some ps/\ ps.all t0=true/\∃Bs,Gv X q.2.2 Bs/\∀S',Kp X.w (frS X q.2.1) X.w S'->RO X.w S' ss vs ps Bs
 |[],_,_,.nil=> .ret ⟨.nil,[],rfl,rfl,[],.nil,λ_ _=> .nil⟩
 |[],_,_,.cons _ _=> .fail
 |_::_,_,_,.nil=> .fail
 |s::ss,_,_,.cons h t=>by
  unfold FQ;refine Sp.bind (Ec hm h) λq ⟨q1,p,q2,q3,Bs,q4,q5⟩=>Sp.bind (Ky hm t) λr ⟨r1,ps,r2,r3,Cs,r4,r5⟩=> .ret ⟨q1.app r1,p::ps,kj q2 r2,by simp[q3,r3],Bs++Cs,q4.app r4,λS' k=>(q5 S' (FV.trans k)).cons (r5 S' (FW.trans k))⟩
def RR.g {w:World}{S:Nat->Prop}{t:TypeId}{ts:List eN}{v:Value}{p:PV}{Bs:List Nat}(ha:b7 P t=some true)(h:∃a cs,v= .agg a/\ p= .agg cs/\ cs.all t0=true/\((ts=[]/\ Bs=[]/\ RTs w S a.toList cs)\/RO w S ts a.toList cs Bs)):RR P w S t ts v p Bs:=by
 unfold RR;rw[ha];exact h
def RR.o {w:World}{S:Nat->Prop}{t:TypeId}{ts:List eN}{v:Value}{p:PV}{Bs:List Nat}(ha:b7 P t=some false)(h:(ts=[]/\ Bs=[]/\ RT w S v p/\ t0 p=true)\/RO w S ts [v] [p] Bs):RR P w S t ts v p Bs:=by
 unfold RR;rw[ha];exact h
def YF (hm:MR X base L){t:TypeId}{ts:List eN}{w:SW}{v:Value}(h:WR X v w):Sp X.e (UZ P X.σ t ts w) λq=>ir X q.2.1/\∃p,q.1.ev X.e=some p/\∃Bs,Gv X q.2.2 Bs/\∀S',Kp X.w (frS X q.2.1) X.w S'->RR P X.w S' t ts v p Bs:=by
 unfold UZ;split
 .rename_i ha;split
  .exact .fail
  .cases h with
   |av h ht r=>
    split
    .exact .ret ⟨.nil,_,h,[],.nil,λS' k=> .g ha ⟨_,_,rfl,rfl,ht,.inl ⟨rfl,rfl,r.mono (sH.trans k)⟩⟩⟩
    .exact .fail
  .cases h with
   |agg h=>
    split
    .refine Sp.bind (xv hm (.agg h)) λq ⟨⟨p,h1,h2,_⟩,h3⟩=> .ret ⟨h3,p,h1,[],.nil,λS' k=>?_⟩;obtain⟨cs,e1,e2,e3⟩:=(h2.mono k).agg_inv;exact .g ha ⟨_,cs,rfl,e1,e2,.inl ⟨rfl,rfl,e3⟩⟩
    .refine Sp.bind (Ky hm h) λq ⟨q1,ps,q2,q3,Bs,q4,q5⟩=>?_;have hfm:ps.flatMap PV.cells=ps:=by
      clear q2 q5;induction ps with
      |nil=>rfl
      |cons p ps ih=>
       simp only[dJ,aJ] at q3;rw[dA,ih q3.2];have:=q3.1;cases p<;>first|rfl|simp[t0] at this
     refine Sp.bind Sp.emit λy hy=>?_;obtain⟨vs,u,h1,h2,h3⟩:=hy;rw[q2] at h1;cases h1;obtain⟨_,rfl⟩:=dq h2;rw[hfm] at h3;exact .ret ⟨q1,_,h3,Bs,q4,λS' k=> .g ha ⟨_,_,rfl,rfl,q3,.inr (q5 S' k)⟩⟩
 .rename_i ha;split
  .cases h with
   |c h=>
    split
    .exact(Ec hm h).mono λq ⟨q1,p,q2,q3,Bs,q4,q5⟩=>⟨q1,p,q2,Bs,q4,λS' k=>by
      cases q5 S' k with
      |tree h h0 t=>cases t;exact .o ha (.inl ⟨rfl,rfl,h,h0⟩)⟩
    .exact(Ec hm h).mono λq ⟨q1,p,q2,q3,Bs,q4,q5⟩=>⟨q1,p,q2,Bs,q4,λS' k=> .o ha (.inr (q5 S' k))⟩
    .exact .fail
  .exact .fail
 .exact .fail
def Kz (hm:MR X base L):∀{tys:List TypeId} {ts:List (List eN)} {ws:List SW} {vs:List Value},F2 (WR X) vs ws->Sp X.e (FR P X.σ tys ts ws) λq=>ir X q.2.1/\∃ps,evs X.e q.1=some ps/\∃Bs,Gv X q.2.2 Bs/\∀S',Kp X.w (frS X q.2.1) X.w S'->RRs P X.w S' tys ts vs ps Bs
 |[],_,_,_,.nil=> .ret ⟨.nil,[],rfl,[],.nil,λ_ _=> .nil⟩
 |[],_,_,_,.cons _ _=> .fail
 |_::_,_,_,_,.nil=> .fail
 |t::tys,ts,_,_,.cons h k=>by
  unfold FR;refine Sp.bind (YF hm h) λq ⟨q1,p,q2,Bs,q4,q5⟩=>Sp.bind (Kz hm k) λr ⟨r1,ps,r2,Cs,r4,r5⟩=> .ret ⟨q1.app r1,p::ps,kj q2 r2,Bs++Cs,q4.app r4,λS' k=> .cons (q5 S' (FV.trans k)) (r5 S' (FW.trans k))⟩
def E4:∀{bs:List Nat},CF bs=true->bs.Nodup
 |[],_=>nK
 |b::bs,h=>by
  simp only[CF,aJ,aE] at h;exact cj.2 ⟨λhb=>by simp[hb] at h,E4 h.2⟩
def LdE (X:Cx)(as as0:List A)(S':Nat->Prop)(Bs:List Nat)(gv:Bool):Option (LK×A)->Prop
 |none=>as=as0
 |some (k,nl)=>match gv with
  |true=>as=as0++[.c (.sl [])]
  |false=>∃l,as=as0++[l]/\∃sb,look X.σ.bl 0=some sb/\ Knd nl l sb k/\∀B lim,X.ρ 0=some (B,lim)->¬S' B/\ B∉Bs
def YG (hm:MR X base L){a:Act}(hρ:EvR X a.eval){fn:Func}{slots:List (List eN)}{ld:Option (LK×A)}{gv:Bool}:Sp X.e (J9 P ⟨fn.results.toList,fn.resultTypes.toList,slots,ld,gv⟩ X.σ) λas=>∃us ps as0 S' Bs,(results fn a.tmps).run P X.w= .ok (mw us) X.w/\ evs X.e as0=some ps/\ LdE X as as0 S' Bs gv ld/\ RRs P X.w S' fn.resultTypes.toList slots us ps Bs/\ Bs.Nodup/\(∀B∈Bs,(base<=B\/L B)/\¬S' B/\ B<X.w.heap.size)/\ Kp X.w X.S X.w S'/\(∀B,S' B->B<X.w.heap.size)/\(∀B,S' B->X.S B\/base<=B\/L B):=by
 unfold J9;refine Sp.bind (xz (P:=P) hm hρ) λws ⟨us,h1,h2⟩=>Sp.bind (Kz (P:=P) hm h2) λq ⟨q1,ps,q2,Bs,⟨g1,ns,g2,g3⟩,q4⟩=>?_;split
 .rename_i hc;simp only[aJ] at hc;have hnd:=(E4 hc.1).sublist g2;have hfz:=xw hm q1;have hin:∀{b b' B l l':Nat},b∈q.2.2->X.ρ b=some (B,l)->(∃sb,look X.σ.bl b'=some sb)->X.ρ b'=some (B,l')->b=b':=λhb hr ⟨sb,hb'⟩ hr'=>by
   obtain⟨_,_,_,h3⟩:=g1 _ hb;exact hm.inj _ _ _ _ _ _ _ h3 hb' hr hr'
  have fin:∀as,LdE X as q.1 (frS X q.2.1) Bs gv ld->∃us ps as0 S' Bs,(results fn a.tmps).run P X.w= .ok (mw us) X.w/\ evs X.e as0=some ps/\ LdE X as as0 S' Bs gv ld/\ RRs P X.w S' fn.resultTypes.toList slots us ps Bs/\ Bs.Nodup/\(∀B∈Bs,(base<=B\/L B)/\¬S' B/\ B<X.w.heap.size)/\ Kp X.w X.S X.w S'/\(∀B,S' B->B<X.w.heap.size)/\(∀B,S' B->X.S B\/base<=B\/L B):=?_
  .split
   .rename_i h0;have h0:ld=none:=h0;subst h0;exact .ret (fin _ rfl)
   .rename_i k nl h0;have h0:ld=some (k,nl):=h0;subst h0;split
    .rename_i hgv;have hgv:gv=true:=hgv;subst hgv;exact .ret (fin _ rfl)
    rename_i hgv;have hgv:gv=false:=hgv;subst hgv;split
    .exact .fail
    .rename_i h0;split
     .rename_i l hl;rw[eP] at h0;have key:∀sb,look X.σ.bl 0=some sb->frz sb=false->∀B lim,X.ρ 0=some (B,lim)->¬frS X q.2.1 B/\ B∉Bs:=λsb hb hf B lim hr=>by
       refine⟨?_,λhB=>?_⟩
       .rintro(h|⟨b',hb',l',hr'⟩)
        .rw[(hm.own 0 sb B lim hb hr).2,hf] at h;cases h
        .obtain⟨_,_,_,_,h4⟩:=q1 b' hb';have:=hm.inj _ _ _ _ _ _ _ h4 hb hr' hr;subst this;have:=h0.1;simp[hb'] at this
       .obtain⟨i,hi⟩:=aK.1 hB;obtain⟨b',hb',l',hr'⟩:=g3.get' i B hi;have hb':=g2.subset (ax hb');have:=hin hb' hr' ⟨_,hb⟩ hr;subst this;have:=h0.2;simp[hb'] at this
      suffices h:∃sb,look X.σ.bl 0=some sb/\ Knd nl l sb k by
       obtain⟨sb,h1,h2⟩:=h;exact .ret (fin _ ⟨l,rfl,sb,h1,h2,key sb h1 h2.frz⟩)
      unfold Xo at hl;split at hl
      .rename_i l' n z hb;split at hl
       .split at hl
        .rename_i hc;simp only[aJ] at hc;cases hl;have:=vX hc.1;subst this;have:=jD hc.2;subst this;exact⟨_,hb,rfl⟩
        .cases hl
       .cases hl
      .rename_i l' ka nk va hb;split at hl
       .split at hl
        .rename_i hc;simp only[aJ] at hc;cases hl;have:=bq_ok hc.1.1;subst this;have:=jD hc.1.2;subst this;have:=bq_ok hc.2;subst this;exact⟨_,hb,rfl⟩
        .cases hl
       .cases hl
      .cases hl
     .exact .fail
  refineλas hld=>⟨us,ps,q.1,frS X q.2.1,Bs,Ax h1,q2,hld,q4 _ (Kp.refl _ _),?_,λB hB=>?_,CO,hfz.mr.cur,hfz.new⟩
  .have sub:∀b∈ns,b∈q.2.2:=λb hb=>g2.subset hb;clear q4 q2 hld;induction g3 with
   |nil=>exact nK
   | @cons b B ns Bs h t ih=>
    rw[cj] at hnd|-;refine⟨λhB=>?_,ih ((List.sublist_cons_self b ns).trans g2) hnd.2 λb hb=>sub b (by simp[hb])⟩;obtain⟨i,hi⟩:=aK.1 hB;obtain⟨b',hb',l',hr'⟩:=t.get' i B hi;have hm':=ax hb';obtain⟨l,hr⟩:=h;obtain⟨_,_,_,h4⟩:=g1 b' (sub b' (by simp[hm']));have:=hin (sub b (by simp)) hr ⟨_,h4⟩ hr';exact hnd.1 (this▸hm')
  .obtain⟨i,hi⟩:=aK.1 hB;obtain⟨b,hb,l,hr⟩:=g3.get' i B hi;have hbq:=g2.subset (ax hb);obtain⟨lv,nl,z,hl⟩:=g1 b hbq;obtain⟨o1,o2⟩:=hm.own b _ B l hl hr;refine⟨o1,?_,ey hm hl hr⟩;rintro(h|⟨b',hb',l',hr'⟩)
   .rw[o2] at h;cases h
   .obtain⟨_,_,_,_,h4⟩:=q1 b' hb';have:=hin hbq hr ⟨_,h4⟩ hr';subst this;have:=aV.1 hc.2 b hbq;simp[hb'] at this
 .exact .fail
end
section
variable {X X':Cx}{P:Program}{base m:Nat}{L:Nat->Prop}
def S1 {a b:Option Nat}(h:oEq a b=true):a=b:=by
 unfold oEq at h;split at h
 .rfl
 .simp_all
 .cases h
structure Mt.le (s f:Mt):Prop where
 as:∀i a,look s.as i=some a->look f.as i=some a
 rn:∀t q,look s.rn t=some q->look f.rn t=some q
def Mt.le.refl {s:Mt}:s.le s:=⟨λ_ _ h=>h,λ_ _ h=>h⟩
def Mt.le.trans {s t u:Mt}(h:s.le t)(k:t.le u):s.le u:=⟨λi a e=>k.as i a (h.as i a e),λi a e=>k.rn i a (h.rn i a e)⟩
structure Fin0 (X:Cx)(m:Nat)(f:Mt)(X':Cx):Prop where
 lo:∀i,i<m->X'.e[i]?=X.e[i]?
 as:∀i a v,look f.as i=some a->m<=i->a.ev X.e=some v->X'.e[i]?=some v
 nm:∀t q,look f.rn t=some q->X'.nm t
 ρ:∀t q,look f.rn t=some q->X'.ρ t=q.bind X.ρ
 w:X'.w=X.w
 S:X'.S=X.S
def Fin0.k {f:Mt}(h:Fin0 X m f X'):Kp X.w X.S X'.w X'.S:=⟨λ_ hB=>by rw[h.S];exact hB,λ_ _=>by rw[h.w]⟩
def KdR (X X':Cx)(tb:SB):Option Nat->Prop
 |some b=>∃sb,look X.σ.bl b=some sb/\ X.K b=some (kd sb)/\ frz sb=frz tb/\ match tb with
  | .box _=>∃cs,sb= .box cs
  | .lst _ tn z _=>∃l n fz,sb= .lst l n z fz/\∀v,n.ev X.e=some v->tn.ev X'.e=some v
  | .map _ ka nk va=>∃l,sb= .map l ka nk va
 |none=>∃l n z,tb= .lst l n z false/\ n.ev X'.e=some (.i64 0)
def zh (X:Cx)(f:Mt)(X':Cx):Prop:=∀t k,X'.K t=some k->∃tb q,kd tb=k/\ look f.rn t=some q/\ KdR X X' tb q
def afo {sb:SB}{nl:A}{z:Nat}(h:kd sb= .lst (.x 0) nl z false):∃l' fz',sb= .lst l' nl z fz':=by
 cases sb<;>simp[kd] at h;simp_all
def jX {s s':Mt}{t a:A}(h:mA m s t a=some s'):s.le s'/\∀{f:Mt} {X'},s'.le f->Fin0 X m f X'->∀v,a.ev X.e=some v->t.ev X'.e=some v:=by
 have same:∀{t a:A},(match A.eq t a with|true=>some s|false=>none)=some s'->(∀i,t= .x i->i<m)->s.le s'/\∀{f:Mt} {X'},s'.le f->Fin0 X m f X'->∀v,a.ev X.e=some v->t.ev X'.e=some v:=by
  intro t a h hi;split at h
  .rename_i e;cases h;have:=vX e;subst this;refine⟨.refl,λ_ hf v hv=>?_⟩;cases t with
   |x i=>exact(hf.lo i (hi i rfl)).trans hv
   |c p=>exact hv
  .cases h
 unfold mA at h;split at h
 .rename_i i;split at h
  .rename_i hmi;split at h
   .rename_i hl;cases h;refine⟨⟨λj b hj=>?_,λ_ _ h=>h⟩,λhle hf v hv=>hf.as i a v (hle.as i a (by rw[ee,ad rfl])) (cg hmi) hv⟩;rw[ee]
    grind
   .rename_i b hl;split at h
    .rename_i e;cases h;have:=vX e;subst this;exact⟨.refl,λhle hf v hv=>hf.as i a v (hle.as i a hl) (cg hmi) hv⟩
    .cases h
  .rename_i hmi;exact same h λj e=>by cases e;exact Nat.lt_of_not_le λhc=>by rw[Nat.ble_eq_true_of_le hc] at hmi;cases hmi
 .exact same h λj e=>by cases e
def Ai {s s':Mt}{t:Nat}{q:Option Nat}(h:mB s t q=some s'):s.le s'/\ look s'.rn t=some q:=by
 unfold mB at h;split at h
 .rename_i c hc;split at h
  .rename_i e;cases h;rw[S1 e];exact⟨.refl,hc⟩
  .cases h
 .rename_i hc;cases h;refine⟨⟨λ_ _ h=>h,λj b hj=>?_⟩,by rw[ee,ad rfl]⟩;rw[ee]
  grind
def Xu {f:Mt}(hf:Fin0 X m f X')(h1:zh X f X'){t b B:Nat}(ht:look f.rn t=some (some b))(h:∀sb,X.K b=some sb->∃l,X.ρ b=some (B,l)):∀sb,X'.K t=some sb->∃l,X'.ρ t=some (B,l):=by
 intro k hl;obtain⟨tb,q,_,hq,hk⟩:=h1 t k hl;rw[ht] at hq;cases hq;obtain⟨sb,_,h2,_⟩:=hk;rw[hf.ρ t _ ht];exact h _ h2
def YH {s s':Mt}{t c:Cap}{v:Value}(hc:CapR X v c)(h:U1 m s t c=some s'):s.le s'/\∀{f:Mt} {X'},s'.le f->Fin0 X m f X'->zh X f X'->CapR X' v t:=by
 unfold U1 at h;split at h
 .split at h
  .rename_i e;have e:=bm e;subst e;obtain⟨h1,h2⟩:=Ai h;cases hc with
   |ptr hb hp=>exact⟨h1,λhle hf hf1=> .ptr (hf.nm _ _ (hle.rn _ _ h2)) (Xu hf hf1 (hle.rn _ _ h2) hp)⟩
  .cases h
 .obtain⟨h1,h2⟩:=jX (X:=X) h;cases hc with
  |a hv ht r=>exact⟨h1,λhle hf _=> .a (h2 hle hf _ hv) ht (r.mono hf.k)⟩
 .cases h
def A7:∀{ts cs:List Cap} {s s':Mt} {vs:List Value},F2 (CapR X) vs cs->CG m s ts cs=some s'->s.le s'/\∀{f:Mt} {X'},s'.le f->Fin0 X m f X'->zh X f X'->F2 (CapR X') vs ts
 |[],[],s,s',vs,hc,h=>by cases h;cases hc;exact⟨.refl,λ_ _ _=> .nil⟩
 |t::ts,c::cs,s,s',vs,hc,h=>by
  unfold CG at h;split at h
  .rename_i s1 h1;cases hc with
   |cons hc hcs=>
    obtain⟨k1,k2⟩:=YH hc h1;obtain⟨k3,k4⟩:=A7 hcs h;exact⟨k1.trans k3,λhle hf hf1=> .cons (k2 (k3.trans hle) hf hf1) (k4 hle hf hf1)⟩
  .cases h
 |[],_::_,s,s',vs,hc,h=>by cases h
 |_::_,[],s,s',vs,hc,h=>by cases h
def Mok (X:Cx)(m:Nat)(s:Mt)(Q:Cx->Prop)(s':Mt):Prop:=s.le s'/\∀{f:Mt} {X'},s'.le f->Fin0 X m f X'->zh X f X'->Q X'
def Mok.mono {s s':Mt}{Q R:Cx->Prop}(h:Mok X m s Q s')(k:∀X',Q X'->R X'):Mok X m s R s':=⟨h.1,λa b c=>k _ (h.2 a b c)⟩
def Mok.comp {s t u:Mt}{Q R:Cx->Prop}(h:Mok X m s Q t)(k:Mok X m t R u):Mok X m s (λX'=>Q X'/\ R X') u:=⟨h.1.trans k.1,λa b c=>⟨h.2 (k.1.trans a) b c,k.2 a b c⟩⟩
def Xv {f:Mt}(h1:zh X f X'){t b:Nat}{nl:A}{z:Nat}(ht:look f.rn t=some (some b))(h:X'.K t=some (.lst (.x 0) nl z false)):∃n',X.K b=some (.lst (.x 0) n' z false)/\∀v,n'.ev X.e=some v->nl.ev X'.e=some v:=by
 obtain⟨tb,q,e,hq,hk⟩:=h1 t _ h;rw[ht] at hq;cases hq;obtain⟨l',fz',rfl⟩:=afo e;obtain⟨sb,_,h2,_,l',n',fz',rfl,h4⟩:=hk;exact⟨n',h2,h4⟩
def Xw {s:Mt}{t c:SC}{v:Value}(hc:CR X v c):Sp X.e (mC m s t c) (Mok X m s λX'=>CR X' v t):=by
 unfold mC;split
 .rename_i ta;refine Sp.bind (dI hc) λa ⟨p,h1,h2,h3⟩=>Sp.ofO λs' hs=>?_;obtain⟨k1,k2⟩:=jX (X:=X) hs;exact⟨k1,λhle hf _=> .a (k2 hle hf _ h1) h2 (h3.mono hf.k)⟩
 .split
  .split
   .rename_i e;have e:=bm e;subst e;refine Sp.ofO λs' hs=>?_;obtain⟨k1,k2⟩:=jX (X:=X) hs;cases hc with
    |pc h ha hi r=>exact⟨k1,λhle hf _=> .pc (k2 hle hf _ h) ha hi (r.mono hf.k)⟩
   .exact .fail
  .exact .fail
 .split
  .refine .ret ⟨.refl,λ_ _ _=>?_⟩;cases hc with|nil h=>exact .nil h
  .exact .fail
 .exact .ret ⟨.refl,λ_ _ _=> .un hc.one⟩
 .exact .fail
 .split
  .split
   .rename_i e;have e:=bm e;subst e;refine Sp.ofO λs' hs=>?_;obtain⟨h1,h2⟩:=Ai hs;cases hc with
    |ptr hb hp=>exact⟨h1,λhle hf hf1=> .ptr (hf.nm _ _ (hle.rn _ _ h2)) (Xu hf hf1 (hle.rn _ _ h2) hp)⟩
   .exact .fail
  .exact .fail
 .split
  .split
   .rename_i e;have e:=bm e;subst e;split
    .rename_i s1 hs1;refine Sp.ofO λs' hs=>?_;obtain⟨h1,h2⟩:=Ai hs1;obtain⟨k1,k2⟩:=jX (X:=X) hs;cases hc with
     |ep hb hi hp=>
      refine⟨h1.trans k1,λhle hf hf1=>?_⟩;have hq:=hle.rn _ _ (k1.rn _ _ h2);refine .ep (hf.nm _ _ hq) (k2 hle hf _ hi) λnl z hl=>?_;obtain⟨n',h3,_⟩:=Xv hf1 hq hl;obtain⟨h4,h5⟩:=hp _ _ h3;exact⟨by rw[hf.ρ _ _ hq];exact h4,h5⟩
    .exact .fail
   .exact .fail
  .exact .fail
 .split
  .split
   .rename_i e;have e:=bm e;subst e;split
    .rename_i s1 hs1;refine Sp.ofO λs' hs=>?_;obtain⟨h1,h2⟩:=jX (X:=X) hs1;obtain⟨k1,k2⟩:=jX (X:=X) hs;cases hc with
     |tp hl hi hr hS hg he=>exact⟨h1.trans k1,λhle hf hf1=> .tp (h2 (k1.trans hle) hf _ hl) (k2 hle hf _ hi) hr (hf.k.sub _ hS) ((hf.k.get _ hS).trans hg) (he.mono hf.k)⟩
    .exact .fail
   .exact .fail
  .exact .fail
 .split
  .split
   .rename_i s1 hs1;split
    .rename_i s2 hs2;refine Sp.ofO λs' hs=>?_;obtain⟨h1,h2⟩:=Ai hs1;obtain⟨j1,j2⟩:=jX (X:=X) hs2;obtain⟨k1,k2⟩:=jX (X:=X) hs;cases hc with
     |lsl hb h0 hp=>
      refine⟨h1.trans (j1.trans k1),λhle hf hf1=>?_⟩;have hq:=hle.rn _ _ (k1.rn _ _ (j1.rn _ _ h2));refine .lsl (hf.nm _ _ hq) h0 λnl z hl=>?_;obtain⟨n',h3,h4⟩:=Xv hf1 hq hl;obtain⟨oi,ni,L,g1,g2,g3,g4,g5⟩:=hp _ _ h3;exact⟨oi,ni,L,j2 (k1.trans hle) hf _ g1,k2 hle hf _ g2,h4 _ g3,g4,by rw[hf.ρ _ _ hq];exact g5⟩
    .exact .fail
   .exact .fail
  .split
   .rename_i s1 hs1;split
    .rename_i s2 hs2;refine Sp.ofO λs' hs=>?_;obtain⟨h1,h2⟩:=Ai hs1;obtain⟨j1,j2⟩:=jX (X:=X) hs2;obtain⟨k1,k2⟩:=jX (X:=X) hs;cases hc with
     |nil h0=>
      refine⟨h1.trans (j1.trans k1),λhle hf hf1=>?_⟩;have hq:=hle.rn _ _ (k1.rn _ _ (j1.rn _ _ h2));refine .lsl (hf.nm _ _ hq) (by rcases h0 with rfl|⟨_,_,rfl⟩<;>rfl) λnl z hl=>?_
      obtain⟨tb,q,e0,hq',hk⟩:=hf1 _ _ hl;rw[hq] at hq';cases hq';obtain⟨l',n',z',rfl,h4⟩:=hk;cases e0;exact⟨0,0,0,j2 (k1.trans hle) hf _ rfl,k2 hle hf _ rfl,h4,aB _,.inr ⟨rfl,h0,aB _⟩⟩
    .exact .fail
   .exact .fail
  .exact .fail
 .split
  .refine Sp.ofO λs' hs=>?_;obtain⟨h1,h2⟩:=Ai hs;cases hc with
   |mp hb hp=>
    refine⟨h1,λhle hf hf1=>?_⟩;have hq:=hle.rn _ _ h2;refine .mp (hf.nm _ _ hq) λk hl=>?_;obtain⟨tb,q,_,hq',hk⟩:=hf1 _ k hl;rw[hq] at hq';cases hq';obtain⟨sb,_,h2,_⟩:=hk;rw[hf.ρ _ _ hq];exact hp _ h2
  .exact .fail
 .split
  .split
   .rename_i e;have e:=bm e;subst e;split
    .rename_i s1 hs1;refine Sp.ofO λs' hs=>?_;cases hc with
     |fn c1 c2=>
      obtain⟨h1,h2⟩:=A7 c1 hs1;obtain⟨k1,k2⟩:=A7 c2 hs;exact⟨h1.trans k1,λhle hf hf1=> .fn (h2 (k1.trans hle) hf hf1) (k2 hle hf hf1)⟩
    .exact .fail
   .exact .fail
  .exact .fail
def C7:∀{ts cs:List SC} {s:Mt} {vs:List Value},F2 (CR X) vs cs->Sp X.e (mCs m s ts cs) (Mok X m s λX'=>F2 (CR X') vs ts)
 |[],[],s,vs,h=>by cases h;exact .ret ⟨.refl,λ_ _ _=> .nil⟩
 |t::ts,c::cs,s,vs,h=>by
  cases h with
  |cons h hs=>exact Sp.bind (Xw h) λs1 h1=>(C7 hs).mono λs2 h2=>(h1.comp h2).mono λX' h=> .cons h.1 h.2
 |[],_::_,s,vs,h=> .fail
 |_::_,[],s,vs,h=> .fail
def Xx (hm:MR X base L){s:Mt}{t w:SW}{v:Value}(h:WR X v w):Sp X.e (mW m X.σ s t w) (Mok X m s λX'=>WR X' v t):=by
 unfold mW;split
 .split
  .rename_i cs;refine Sp.bind (Ag hm h) λa ⟨p,h1,h2⟩=>Sp.ofO λs' hs=>?_;obtain⟨k1,k2⟩:=jX (X:=X) hs;cases h with
   |agg _=>cases h2 with
    |v hp=>cases hp
    |nil hn=>rcases hn with hn|⟨_,_,hn⟩<;>cases hn
    |agg r ht=>exact⟨k1,λhle hf _=> .av (k2 hle hf _ h1) ht (r.mono hf.k)⟩
  .refine Sp.ofO λs' hs=>?_;obtain⟨k1,k2⟩:=jX (X:=X) hs;cases h with
   |av h ht r=>exact⟨k1,λhle hf _=> .av (k2 hle hf _ h) ht (r.mono hf.k)⟩
  .exact .fail
 .split
  .exact(Xw h.inv).mono λs' h=>h.mono λX' h=> .c h
  .exact .fail
 .split
  .cases h with
   |agg h=>exact(C7 h).mono λs' h=>h.mono λX' h=> .agg h
  .cases h with
   |av h ht r=>
    refine Sp.bind (rc h) λy ⟨h1,h2⟩=>?_;exact(C7 (CN h1 ht _ 0 rfl h2 r.f2)).mono λs' h=>h.mono λX' h=> .agg h
  .exact .fail
def S2 (hm:MR X base L):∀{ts ws:List SW} {s:Mt} {vs:List Value},F2 (WR X) vs ws->Sp X.e (mWs m X.σ s ts ws) (Mok X m s λX'=>F2 (WR X') vs ts)
 |[],[],s,vs,h=>by cases h;exact .ret ⟨.refl,λ_ _ _=> .nil⟩
 |t::ts,c::cs,s,vs,h=>by
  cases h with
  |cons h hs=>exact Sp.bind (Xx hm h) λs1 h1=>(S2 hm hs).mono λs2 h2=>(h1.comp h2).mono λX' h=> .cons h.1 h.2
 |[],_::_,s,vs,h=> .fail
 |_::_,[],s,vs,h=> .fail
def ahk (hm:MR X base L){s:Mt}{t w:SV}{v:Value}(h:VR X v w):Sp X.e (mV m X.σ s t w) (Mok X m s λX'=>VR X' v t):=by
 unfold mV;split
 .split
  .exact(Xx hm h.inv).mono λs' h=>h.mono λX' h=> .w h
  .exact .fail
 .split
  .cases h with
   |tup h=>exact(S2 hm h).mono λs' h=>h.mono λX' h=> .tup h
  .exact .fail
def uT (X:Cx)(tm:List (Nat×SV))(a:Array Value):Prop:=∀t sv,look tm t=some sv->∃v,a[t]?=some v/\ VR X v sv
def S3 (hm:MR X base L){a:Array Value}(hT:uT X X.σ.tm a):∀{l:List (Nat×SV)} {s:Mt},Sp X.e (mTm m X.σ s l) (Mok X m s λX'=>uT X' l a)
 |[],s=> .ret ⟨.refl,λ_ _ _ _ _ h=>by cases h⟩
 |(t,v)::r,s=>by
  unfold mTm;split
  .rename_i u hu;obtain⟨x,h1,h2⟩:=hT t u hu;refine Sp.bind (ahk hm h2) λs1 k1=>(S3 hm hT).mono λs2 k2=>(k1.comp k2).mono λX' h t' sv hl=>?_;rw[ee] at hl;split at hl
   .rename_i e;subst e;cases hl;exact⟨x,h1,h.1⟩
   .exact h.2 t' sv hl
  .exact .fail
def afp {a b:Bool}(h:bEq a b=true):a=b:=by cases a<;>cases b<;>first|rfl|cases h
def Bok (X:Cx)(m:Nat)(s:Mt)(r:List (Nat×SB))(s':Mt):Prop:=s.le s'/\∀{f:Mt} {X'},s'.le f->Fin0 X m f X'->(∀p∈r,∃q,look f.rn p.1=some q/\ KdR X X' p.2 q)/\(zh X f X'->∀p∈r,BR X' p.1 p.2)
def Bok.cons {s s1 s':Mt}{t:Nat}{tb:SB}{q:Option Nat}{r:List (Nat×SB)}(hq:look s.rn t=some q)(h1:s.le s1)(h2:∀{f:Mt} {X'},s1.le f->Fin0 X m f X'->KdR X X' tb q/\(zh X f X'->BR X' t tb))(k:Bok X m s1 r s'):Bok X m s ((t,tb)::r) s':=by
 refine⟨h1.trans k.1,λhle hf=>⟨λp hp=>?_,λhf1 p hp=>?_⟩⟩
 .rcases bz.1 hp with rfl|hp
  .exact⟨q,hle.rn _ _ (k.1.rn _ _ (h1.rn _ _ hq)),(h2 (k.1.trans hle) hf).1⟩
  .exact(k.2 hle hf).1 p hp
 .rcases bz.1 hp with rfl|hp
  .exact(h2 (k.1.trans hle) hf).2 hf1
  .exact(k.2 hle hf).2 hf1 p hp
def zi (hm:MR X base L):∀{r:List (Nat×SB)} {s:Mt},Sp X.e (mBl m X.σ s r) (Bok X m s r)
 |[],s=> .ret ⟨.refl,λ_ _=>⟨λp hp=>(by cases hp),λ_ p hp=>(by cases hp)⟩⟩
 |(t,tb)::r,s=>by
  unfold mBl;split
  .rename_i b hq;split
   .rename_i sb hl;have hb:=hm.bl b sb hl;split
    .rename_i ts cs;obtain⟨B,arr,h1,h2,h3⟩:=hb;refine Sp.bind (C7 h3) λs1 k1=>(zi hm).mono λs' k=> .cons hq k1.1 (λhle hf=>⟨⟨_,hl,hm.kd b _ hl,rfl,_,rfl⟩,λhf1=>?_⟩) k;refine⟨B,arr,by rw[hf.ρ t _ (hle.rn _ _ (k1.1.rn _ _ hq))];exact h1,by rw[hf.w];exact h2,k1.2 hle hf hf1⟩
    .rename_i tl tn z fz l n z' fz';split
     .rename_i e;rw[aJ] at e;obtain⟨e1,e2⟩:=e;have e1:=bm e1;have e2:=afp e2;subst e1;subst e2;split
      .rename_i s1 hs1;split
       .rename_i s2 hs2;obtain⟨j1,j2⟩:=jX (X:=X) hs1;obtain⟨k1,k2⟩:=jX (X:=X) hs2;refine(zi hm).mono λs' k=> .cons hq (j1.trans k1) (λhle hf=>⟨⟨_,hl,hm.kd b _ hl,rfl,_,_,_,rfl,k2 hle hf⟩,λhf1=>?_⟩) k;obtain⟨hz,els,g1,g2,g3,g4⟩:=hb;refine⟨hz,els,j2 (k1.trans hle) hf _ g1,k2 hle hf _ g2,g3,?_⟩;rw[hf.ρ t _ (hle.rn _ _ (k1.rn _ _ (j1.rn _ _ hq))),hf.w,hf.S];exact g4
       .exact .fail
      .exact .fail
     .exact .fail
    .rename_i tl ka nk va l ka' nk' va';split
     .rename_i e;simp only[aJ] at e;have e1:=bq_ok e.1.1;have e2:=bm e.1.2;have e3:=bq_ok e.2;subst e1;subst e2;subst e3;split
      .rename_i s1 hs1;obtain⟨j1,j2⟩:=jX (X:=X) hs1;refine(zi hm).mono λs' k=> .cons hq j1 (λhle hf=>⟨⟨_,hl,hm.kd b _ hl,rfl,_,rfl⟩,λhf1=>?_⟩) k;obtain⟨B,es,ck,rows,g1,g2,g3,g4⟩:=hb;refine⟨B,es,ck,rows,by rw[hf.ρ t _ (hle.rn _ _ (j1.rn _ _ hq))];exact g1,by rw[hf.w];exact g2,j2 hle hf _ g3,by rw[hf.w,hf.S];exact g4⟩
      .exact .fail
     .exact .fail
    .exact .fail
   .exact .fail
  .rename_i hq;split
   .rename_i tl tn z;split
    .rename_i hz;split
     .rename_i s1 hs1;split
      .rename_i s2 hs2;obtain⟨j1,j2⟩:=jX (X:=X) hs1;obtain⟨k1,k2⟩:=jX (X:=X) hs2;refine(zi hm).mono λs' k=> .cons hq (j1.trans k1) (λhle hf=>⟨⟨_,_,_,rfl,k2 hle hf _ rfl⟩,λhf1=>?_⟩) k;exact⟨cg hz,[],j2 (k1.trans hle) hf _ rfl,k2 hle hf _ rfl,λ_ h=>(by cases h),.inl ⟨rfl,hf.ρ t _ (hle.rn _ _ (k1.rn _ _ (j1.rn _ _ hq)))⟩⟩
      .exact .fail
     .exact .fail
    .exact .fail
   .exact .fail
  .exact .fail
def KA {s:Mt}:∀{n:Nat} {vs:List A},FS s m n=some vs->vs.length=n/\∀j,j<n->∃a,look s.as (m+j)=some a/\ vs[j]?=some a
 |0,vs,h=>by cases h;exact⟨rfl,λj hj=>by omega⟩
 |n+1,vs,h=>by
  unfold FS at h;split at h
  .rename_i l hl;split at h
   .rename_i a ha;cases h;obtain⟨h1,h2⟩:=KA hl;refine⟨by simp[h1],λj hj=>?_⟩;by_cases e:j=n
    .subst e;exact⟨a,ha,by rw[bP (by omega)];simp[h1]⟩
    .obtain⟨b,h3,h4⟩:=h2 j (by omega);exact⟨b,h3,by rw[aH (by omega)];exact h4⟩
   .cases h
  .cases h
def A8:∀{l:List (Nat×Option Nat)},Ad l=true->∀{t t' b:Nat},(t,some b)∈l->(t',some b)∈l->t=t'
 |[],_,_,_,_,h,_=>by cases h
 |(k,none)::r,hr,t,t',b,h,h'=>by
  rcases bz.1 h with e|h
  .cases e
  .rcases bz.1 h' with e|h'
   .cases e
   .unfold Ad at hr;exact A8 hr h h'
 |(k,some c)::r,hr,t,t',b,h,h'=>by
  unfold Ad at hr;rw[aJ,aE] at hr;have no:∀t,(t,some c)∉r:=λt ht=>by
   have:r.any (λp=>oEq p.2 (some c))=true:=oF.2 ⟨_,ht,by simp[oEq]⟩;rw[hr.1] at this;cases this
  rcases bz.1 h with e|h
  .cases e;rcases bz.1 h' with e'|h'
   .cases e';rfl
   .exact absurd h' (no t')
  .rcases bz.1 h' with e'|h'
   .cases e';exact absurd h (no t)
   .exact A8 hr.2 h h'
def Mi {e:List PV}:∀{as:List A},(∀a∈as,∃v,a.ev e=some v)->∃vs,evs e as=some vs/\ vs.length=as.length/\∀(j:Nat) (a:A) (v:PV),as[j]?=some a->a.ev e=some v->vs[j]?=some v
 |[],_=>⟨[],rfl,rfl,λj a v h=>by simp at h⟩
 |a::as,h=>by
  obtain⟨v,hv⟩:=h a (by simp);obtain⟨vs,h1,h2,h3⟩:=Mi λb hb=>h b (aU _ hb);refine⟨v::vs,kj hv h1,by simp[h2],λj b u hj hu=>?_⟩;cases j with
  |zero=>simp at hj;subst hj;rw[hv] at hu;cases hu;simp
  |succ j=>simp at hj;simpa using h3 j b u hj hu
def Cn (X:Cx):Prop:=∀b,X.nm b->b<X.σ.nb
def S4 (hm:MR X base L){a:Array Value}(hT:uT X X.σ.tm a){T:Tm}{lo:Nat}{e0 ex:List PV}(he:X.e=e0++ex)(hme:e0.length=m){σ0:SS}(hsz:jC e0 σ0.sz)(hfc:∀p∈σ0.fc,e0[p.1]?=some p.2):
  Sp X.e (yV m lo T X.σ) λvs=>(∀v∈vs,∃p,v.ev X.e=some p)->∀N,∃ps X',evs X.e vs=some ps/\ ps.length=T.p/\ X'.e=e0++ps/\ X'.w=X.w/\ X'.S=X.S/\ X'.σ=T.st σ0/\ X'.N=N/\ MR X' base L/\ uT X' T.tm a/\ Cn X'/\
   ∀Xb,Sx Xb X->(∀b,Xb.nm b->b<lo)->(∃y,e0=Xb.e++y)->Sx Xb X':=by
 unfold yV;refine Sp.bind (S3 hm hT) λs1 k1=>Sp.bind (zi hm) λs k2=>?_;split
 .rename_i hc;simp only[aJ] at hc;obtain⟨⟨⟨⟨hrn,hinj⟩,has⟩,hnb⟩,hold⟩:=hc;refine Sp.ofO λvs hvs hev N=>?_;obtain⟨v1,v2⟩:=KA hvs;obtain⟨ps,p1,p2,p3⟩:=Mi hev;unfold afh at hrn;rw[aJ] at hrn;have hlo:=cg hrn.1;have hrn:∀t q,look s.rn t=some q->t<T.nb/\(t<lo->q=some t):=λt q h=>by
   have:=aV.1 hrn.2 _ (fB h);simp only[aJ,gC] at this;refine⟨cg this.1,λht=>?_⟩;rcases this.2 with h1|h1
   .exact absurd (cg h1) (by omega)
   .exact S1 h1
  let ρ':Nat->Option (Nat×Nat):=λt=>match look s.rn t with
   |some q=>q.bind X.ρ
   |none=>X.ρ t
  let X':Cx:=⟨e0++ps,ρ',X.S,X.w,T.st σ0,λt=>t<T.nb,N,λt=>(look T.bl t).map kd⟩
  have hf:Fin0 X m s X':=by
   refine⟨λi hi=>?_,λi b v h hmi hv=>?_,λt q h=>(hrn t q h).1,λt q h=>?_,rfl,rfl⟩
   .show(e0++ps)[i]?=_
    rw[he,aH (by omega),aH (by omega)]
   .have hlt:=aV.1 has _ (fB h);have hlt:i+1<=m+T.p:=cg hlt;obtain⟨b',h1,h2⟩:=v2 (i-m) (by omega);rw[show m+(i-m)=i by omega,h] at h1
    cases h1;show(e0++ps)[i]?=_
    rw[bP (by omega),hme];exact p3 _ _ _ h2 hv
   .show ρ' t=_
    simp only[ρ',h]
  obtain⟨b1,b2⟩:=k2.2 .refl hf;have hK:∀t k,X'.K t=some k->∃tb,look T.bl t=some tb/\ kd tb=k:=λt k h=>bW.1 h;have hf1:zh X s X':=λt k h=>let⟨tb,h1,h2⟩:=hK t k h;let⟨q,h3,h4⟩:=b1 (t,tb) (fB h1);⟨tb,q,h2,h3,h4⟩
  have hbl:=b2 hf1;have old:∀b q,look s.rn b=some q->b<lo->ρ' b=X.ρ b:=λb q h hb=>by
   have:=(hrn b q h).2 hb;subst this;simp only[ρ',h];rfl
  have oldρ:∀b,b<lo->ρ' b=X.ρ b:=λb hb=>by
   cases h:look s.rn b with
   |none=>simp only[ρ',h]
   |some q=>exact old b q h hb
  have hown:∀t tb,look T.bl t=some tb->∃q,look s.rn t=some q/\ KdR X X' tb q/\ ρ' t=q.bind X.ρ:=λt tb h=>by
   obtain⟨q,h1,h2⟩:=b1 (t,tb) (fB h);exact⟨q,h1,h2,by simp only[ρ',h1]⟩
  have hmr:MR X' base L:=by
   refine⟨λb sb h=>?_,λb sb h=>by show(look T.bl b).map kd=_;rw[show look T.bl b=some sb from h];rfl,λb hb _ h=>?_,λb sb h=>hbl (b,sb) (fB h),λb sb B l h hr=>?_,λb b' sb sb' B l l' h h' hr hr'=>?_,hm.cur,hm.hb,?_,?_⟩
   .exact cg (aV.1 hnb _ (fB h))
   .exact di _ (cd h hb)
   .obtain⟨q,h1,h2,h3⟩:=hown b sb h;have hr':ρ' b=some (B,l):=hr;rw[h3] at hr';cases q with
    |none=>cases hr'
    |some c=>
     obtain⟨sb',h4,_,h5,_⟩:=h2;have:=hm.own c sb' B l h4 hr';rw[h5] at this;exact this
   .obtain⟨q,h1,h2,h3⟩:=hown b sb h;obtain⟨q',h1',h2',h3'⟩:=hown b' sb' h';have hr:ρ' b=some (B,l):=hr;have hr':ρ' b'=some (B,l'):=hr';rw[h3] at hr;rw[h3'] at hr';cases q with
    |none=>cases hr
    |some c=>cases q' with
     |none=>cases hr'
     |some c'=>
      obtain⟨sb1,h4,_⟩:=h2;obtain⟨sb2,h4',_⟩:=h2';have:=hm.inj c c' sb1 sb2 B l l' h4 h4' hr hr';subst this;exact A8 hinj (fB h1) (fB h1')
   .intro p hp;obtain⟨cs,h1,h2⟩:=hsz p hp;exact⟨cs,by show(e0++ps)[p.1]?=_;rw[aH (aC.1 h1).1];exact h1,h2⟩
   .intro p hp;have h1:=hfc p hp;show(e0++ps)[p.1]?=_
    rw[aH (aC.1 h1).1];exact h1
  refine⟨ps,X',p1,p2.trans v1,rfl,rfl,rfl,rfl,rfl,hmr,k1.2 k2.1 hf hf1,λb h=>h,λXb sx hb ⟨y,hy⟩=>?_⟩;refine⟨⟨y++ps,by show e0++ps=_;rw[hy,bg]⟩,λb h=>(oldρ b (hb b h)).trans (sx.ρ b h),sx.k,λb sb' h hl=>?_,λb h=>cd (hb b h) hlo⟩
  obtain⟨tb,hl',rfl⟩:=hK b sb' hl;obtain⟨q,h1,h2,_⟩:=hown b tb hl';have:=(hrn b q h1).2 (hb b h);subst this;obtain⟨sb,h3,h3',h4,h5⟩:=h2;refine(sx.lv b _ h h3').trans (aW some ?_);cases tb with
  |box cs=>obtain⟨cs',rfl⟩:=h5;rfl
  |map l ka nk va=>obtain⟨l',rfl⟩:=h5;rfl
  |lst l n z fz=>
   obtain⟨l',n',fz',rfl,_⟩:=h5;have:=aV.1 hold _ (fB hl');simp only[h3,gC] at this;rcases this with h8|h8
   .exact absurd (cg h8) (by have:=hb b h;omega)
   .rw[vX h8];rfl
 .exact .fail
end
section
variable {X:Cx}{P:Program}{base:Nat}{L:Nat->Prop}
def tj {e y:List PV}:∀{as:List A} {vs:List PV},evs e as=some vs->evs (e++y) as=some vs
 |[],_,h=>h
 |a::as,vs,h=>by
  simp[evs] at h;split at h
  .rename_i v hv;split at h
   .rename_i ws hw;cases h;exact kj (DY hv) (tj hw)
   .cases h
  .cases h
def gl.mono {e y:List PV}{m:Nat}{l:rI}(h:gl e m l):gl (e++y) m l:=λi f as hi=>by
 obtain⟨vs,v,h1,h2,h3⟩:=h i f as hi;exact⟨vs,v,tj h1,h2,by rw[aH (aC.1 h3).1];exact h3⟩
def gl.app {e:List PV}{m:Nat}{l k:rI}(h:gl e m l)(h':gl e (m+l.length) k):gl e m (l++k):=λi f as hi=>by
 by_cases hl:i<l.length
 .exact h i f as (by rw[aH hl] at hi;exact hi)
 .obtain⟨vs,v,h1,h2,h3⟩:=h' (i-l.length) f as (by rw[bP (by omega)] at hi;exact hi);exact⟨vs,v,h1,h2,by rw[show m+i=m+l.length+(i-l.length) by omega];exact h3⟩
def jC.mono {e y:List PV}{z:Szs}(h:jC e z):jC (e++y) z:=λp hp=>by
 obtain⟨cs,h1,h2⟩:=h p hp;exact⟨cs,by rw[aH (aC.1 h1).1];exact h1,h2⟩
variable {Φ:FuncId->List PV->Option (List PV)}{N:Nat}
def mZ {J:List (List PV->Option (List PV))}{k:K}{rs:List PV}:∀{l:rI} {e:List PV},den Φ N (qv l k) J e=some rs->∃vals,vals.length=l.length/\ gl (e++vals) e.length l/\ den Φ N k J (e++vals)=some rs
 |[],e,h=>⟨[],rfl,(λi f as hi=>by simp at hi),by simpa [qv] using h⟩
 |(f,as)::r,e,h=>by
  simp[qv,den] at h;split at h
  .rename_i xs hx;split at h
   .rename_i v hv;obtain⟨vals,h1,h2,h3⟩:=mZ h;rw[bg] at h2 h3;refine⟨v::vals,by simp[h1],λi g bs hi=>?_,h3⟩;cases i with
    |zero=>
     simp at hi;obtain⟨rfl,rfl⟩:=hi;exact⟨xs,v,tj hx,hv,by simp⟩
    |succ i=>
     obtain⟨vs,u,g1,g2,g3⟩:=h2 i g bs (by simpa using hi)
     exact⟨vs,u,g1,g2,by rw[<-g3];congr 1;simp;omega⟩
   .cases h
  .cases h
def qP (hm:MR X base L){σ':SS}(h1:∀b,look σ'.bl b=look X.σ.bl b)(h2:σ'.nb=X.σ.nb)(h3:jC X.e σ'.sz)(h4:∀p∈σ'.fc,X.e[p.1]?=some p.2):Nx X base L {X with σ:=σ'}:=by
 have sx:Sx X {X with σ:=σ'}:=⟨⟨[],by simp⟩,λ_ _=>rfl,Kp.refl _ _,λ_ _ _ h=>h,λ_ h=>h⟩
 exact⟨sx,⟨λb sb h=>hm.lt b sb ((h1 b).symm.trans h),λb sb h=>hm.kd b sb ((h1 b).symm.trans h),λb hb=>hm.fr b (by rw[<-h2];exact hb),λb sb h=>(hm.bl b sb ((h1 b).symm.trans h)).step sx (hm.lt b sb ((h1 b).symm.trans h)) λ_ _ _=>rfl,λb sb B l h=>hm.own b sb B l ((h1 b).symm.trans h),
  λb b' sb sb' B l l' h h'=>hm.inj b b' sb sb' B l l' ((h1 b).symm.trans h) ((h1 b').symm.trans h'),hm.cur,hm.hb,h3,h4⟩,.refl,λ_ h=> .inl h,rfl,rfl,by rw[show({X with σ:=σ'}:Cx).σ.nb=σ'.nb from rfl,h2];exact aB _,λ_ h=> .inl h,λb _ h=>⟨rfl,(h1 b).trans h⟩⟩
def Cx.ex (X:Cx)(y:List PV)(N:Nat):Cx:={X with e:=X.e++y,N:=N}
def C8 {y:List PV}{N:Nat}:Sx X (X.ex y N):=⟨⟨y,rfl⟩,λ_ _=>rfl,⟨λ_ h=>h,λ_ _=>rfl⟩,λ_ _ _ h=>h,λ_ h=>h⟩
def Pc (hm:MR X base L)(hc:Cn X){y:List PV}{N:Nat}:MR (X.ex y N) base L:=
 ⟨hm.lt,hm.kd,λb h _ hn=>di _ (cd (hc b hn) h),λb sb h=>(hm.bl b sb h).step C8 (hm.lt b sb h) λ_ _ _=>rfl,hm.own,hm.inj,hm.cur,hm.hb,hm.sz.mono,λp hp=>by
  have:=hm.fc p hp;show(X.e++y)[p.1]?=_
  rw[aH (aC.1 this).1];exact this⟩
def afq (hm:MR X base L){w':World}{S':Nat->Prop}(kp:Kp X.w X.S w' S')(cur:∀B,S' B->B<w'.heap.size)(new:∀B,S' B->X.S B\/X.w.heap.size<=B){Q:Nat->Prop}(fr:Frm X.w.heap.size Q X.w w')(hq:∀B,B<X.w.heap.size->¬Q B)(hd:¬L base->¬Q X.w.heap.size):Nx X base L {X with w:=w',S:=S'}:=by
 have sx:Sx X {X with w:=w',S:=S'}:=⟨⟨[],by simp⟩,λ_ _=>rfl,kp,λ_ _ _ h=>h,λ_ h=>h⟩
 refine⟨sx,⟨hm.lt,hm.kd,hm.fr,λb sb h=>(hm.bl b sb h).step sx (hm.lt b sb h) λB l hr=>fr.block B (ey hm h hr) (hq _ (ey hm h hr)),λb sb B l h hr=>?_,hm.inj,cur,bG hm.hb fr.size,hm.sz,hm.fc⟩,⟨fr.os,fr.tape,fr.output,fr.size,λk hk _=>fr.block k (cd hk hm.hb) (hq _ (cd hk hm.hb)),λh=>fr.drawn (hd h)⟩,λB hB=>?_,rfl,rfl,aB _,λ_ h=> .inl h,λ_ _ h=>⟨rfl,h⟩⟩
 .obtain⟨h1,h2⟩:=hm.own b sb B l h hr;refine⟨h1,zH ⟨λhB=>?_,kp.sub B⟩ h2⟩;exact(new B hB).elim id λhB=>absurd (ey hm h hr) (by omega)
 .exact(new B hB).imp id λhB=> .inl (bG hm.hb hB)
def YI (hm:MR X base L){w':World}{S' Q:Nat->Prop}(hQ:∀B,Q B->(base<=B\/L B)/\∀b sb l,look X.σ.bl b=some sb->X.ρ b≠some (B,l))(kp:Kp X.w X.S w' S')(cur:∀B,S' B->B<w'.heap.size)(new:∀B,S' B->X.S B\/X.w.heap.size<=B\/Q B)(fr:Frm X.w.heap.size Q X.w w')(hd:¬L base->¬Q X.w.heap.size):Nx X base L {X with w:=w',S:=S'}:=by
 have sx:Sx X {X with w:=w',S:=S'}:=⟨⟨[],by simp⟩,λ_ _=>rfl,kp,λ_ _ _ h=>h,λ_ h=>h⟩
 refine⟨sx,⟨hm.lt,hm.kd,hm.fr,λb sb h=>(hm.bl b sb h).step sx (hm.lt b sb h) λB l hr=>fr.block B (ey hm h hr) λhB=>(hQ B hB).2 b sb l h hr,λb sb B l h hr=>?_,hm.inj,cur,bG hm.hb fr.size,hm.sz,hm.fc⟩,⟨fr.os,fr.tape,fr.output,fr.size,λk hk hL=>fr.block k (cd hk hm.hb) λhB=>(hQ k hB).1.elim (λh=>by omega) hL,λh=>fr.drawn (hd h)⟩,λB hB=>?_,rfl,rfl,aB _,λ_ h=> .inl h,λ_ _ h=>⟨rfl,h⟩⟩
 .obtain⟨h1,h2⟩:=hm.own b sb B l h hr;refine⟨h1,zH ⟨λhB=>?_,kp.sub B⟩ h2⟩;rcases new B hB with h3|h3|h3
  .exact h3
  .exact absurd (ey hm h hr) (by omega)
  .grind
 .exact(new B hB).imp id λh=>h.elim (λhB=> .inl (bG hm.hb hB)) λhB=>(hQ B hB).1
def tq (P:Program)(o:Oper)(a:Act)(w:World)(R:Value->World->Prop):Prop:=
 (∃v w',((execOp a.eval o).run P w= .ok (.value v) w'\/((execOp a.eval o).run P w= .ok .skip w'/\ v=undef))/\ R v w')\/∃g vs,(execOp a.eval o).run P w= .ok (.enter g vs) w/\ Calls P g vs w λe w'=>∃u,e= .returned u/\ R u w'
def tq.mono {o:Oper}{a:Act}{w:World}{R R':Value->World->Prop}(h:tq P o a w R)(k:∀v w',R v w'->R' v w'):tq P o a w R':=by
 rcases h with⟨v,w',h1,h2⟩|⟨g,vs,h1,h2⟩
 .exact .inl ⟨v,w',h1,k _ _ h2⟩
 .exact .inr ⟨g,vs,h1,h2.mono λe w' ⟨u,h3,h4⟩=>⟨u,h3,k _ _ h4⟩⟩
def tq.wp {o:Oper}{a:Act}{w:World}{R:Value->World->Prop}{next:Act->World->Prop}{Q:Exit->Act->World->Prop}(h:tq P o a w R)(k:∀v w',R v w'->next (a.put o.dst v) w'):o.wp P a w next Q:=by
 unfold Oper.wp;rcases h with⟨v,w',h1|⟨h1,rfl⟩,h2⟩|⟨g,vs,h1,h2⟩
 .rw[h1];exact k _ _ h2
 .rw[h1];exact k _ _ h2
 .rw[h1];refine h2.mono ?_
  grind
def rd (Φ:FuncId->List PV->Option (List PV))(e:List PV)(m:Nat)(r:Ores):Prop:=gl e m r.pre/\∀g as l,r.cal=some (g,as,l)->∃xs ys,evs e as=some xs/\ Φ g xs=some ys/\(∀i p,ys[i]?=some p->e[m+r.pre.length+i]?=some p)/\ gl e (m+r.pre.length+ys.length) l
def Vu {J:List (List PV->Option (List PV))}{k:K}{rs e:List PV}{r:Ores}(h:den Φ N (r.k k) J e=some rs):∃y,rd Φ (e++y) e.length r/\ den Φ N k J (e++y)=some rs/\(r.cal=none->y.length=r.pre.length)/\∀g as l,r.cal=some (g,as,l)->∃xs ys,evs (e++y) as=some xs/\ Φ g xs=some ys/\ y.length=r.pre.length+ys.length+l.length:=by
 unfold Ores.k at h;obtain⟨vals,h1,h2,h3⟩:=mZ h;split at h3
 .rename_i hc;exact⟨vals,⟨h2,λg as l h=>(by rw[hc] at h;cases h)⟩,h3,λ_=>h1,λg as l h=>by rw[hc] at h;cases h⟩
 .rename_i g as l hc;simp only[den] at h3;split at h3
  .rename_i xs hx;split at h3
   .rename_i ys hy;obtain⟨us,k1,k2,k3⟩:=mZ h3;simp only[bg] at k2 k3;have hx':evs (e++(vals++(ys++us))) as=some xs:=by rw[<-bg];exact tj hx
    refine⟨vals++(ys++us),⟨by rw[<-bg];exact h2.mono,λg' as' l' h=>?_⟩,k3,λh=>(by rw[hc] at h;cases h),λg' as' l' h=>?_⟩
    .rw[hc] at h;cases h;refine⟨xs,ys,hx',hy,λi p hp=>?_,by simpa [h1,dK] using k2⟩
     have hi:=(aC.1 hp).1;rw[bP (by omega),bP (by omega),aH (by omega),<-hp]
     congr 1;omega
    .rw[hc] at h;cases h;exact⟨xs,ys,hx',hy,by simp[h1,k1];omega⟩
   .cases h3
  .cases h3
end
section
variable {X:Cx}{D:Dcf}{base:Nat}{L:Nat->Prop}{Φ:FuncId->List PV->Option (List PV)}
def xA {P:Program}{g:FuncId}(h:OY P g=true):Vo P g:=by
 unfold OY at h;split at h
 .rename_i fn hf;exact⟨fn,hf,λe=>by rw[e] at h;simp at h,λe=>by rw[e] at h;simp at h⟩
 .cases h
def Ed {w w':World}{S S':Nat->Prop}{v:Value}{p:PV}(h:isV p=true)(r:RT w S v p):RT w' S' v p:=by
 cases r with
 |v hp=>exact .v hp
 |_=>cases h
def xB {w w':World}{S S':Nat->Prop}:∀{vs:List Value} {ps:List PV},ps.all isV=true->RTs w S vs ps->RTs w' S' vs ps
 |_,_,_,.nil=> .nil
 |_,_,h,.cons r t=>by
  simp only[dJ,aJ] at h;exact .cons (Ed h.1 r) (xB h.2 t)
def KB {P:Program}{w:World}{S:Nat->Prop}:∀{tys:List TypeId} {ts:List (List eN)} {us:List Value} {ps:List PV} {Bs:List Nat} {y:Nat},ts.all (·.isEmpty)=true->RRs P w S tys ts us ps Bs->(∀i p,ps[i]?=some p->X.e[y+i]?=some p)->Sp X.e (OZ P tys y) λws=>F2 (WR X) us ws
 |[],ts,us,ps,Bs,y,_,h,_=>by cases h;exact .ret .nil
 |t::tys,ts,us,ps,Bs,y,ht,h,hy=>by
  cases h with
  |cons h k=>
   rename_i v vs p qs _ _;refine Sp.bind Sp.emit λa ha=>?_;obtain⟨xs,r,g1,g2,g3⟩:=ha;have hp:A.ev X.e (.x y)=some p:=hy 0 p rfl;obtain⟨p',g4,rfl⟩:=yX g1;rw[hp] at g4;cases g4;simp only[RF.ev] at g2;split at g2
   .rename_i hfl;cases g2;have htl:ts.tail.all (·.isEmpty)=true:=by
     cases ts with
     |nil=>rfl
     |cons s ss=>simp only[dJ,aJ] at ht;exact ht.2
    have hhd:ts.headD []=[]:=by
     cases ts with
     |nil=>rfl
     |cons s ss=>simp only[dJ,aJ] at ht;exact List.isEmpty_iff.1 ht.1
    refine Sp.bind (KB htl k λi p hi=>by rw[dK,qf 1];exact hy (i+1) p hi) λr hr=>?_;rw[hhd] at h;unfold RR at h;split
    .rename_i hag;rw[hag] at h;obtain⟨ar,cs,rfl,rfl,h0,h⟩:=h;have hrt:RTs w S ar.toList cs:=by
      rcases h with⟨_,_,h⟩|h
      .exact h
      .generalize ar.toList=al at h;cases h;exact .nil
     exact .ret (.cons (.av g3 h0 (xB hfl hrt)) hr)
    .rename_i hag;rw[hag] at h;rcases h with⟨_,_,h,h0⟩|h
     .have hv:isV p=true:=by
       cases p with
       |agg cs=>cases h0
       |v x=>rfl
       |sl els=>simpa [PV.cells] using hfl
      exact .ret (.cons (.c (.a g3 h0 (Ed hv h))) hr)
     .cases h
    .exact .fail
   .cases g2
def KC {P:Program}{w:World}{S S':Nat->Prop}:∀{tys:List TypeId} {ts:List (List eN)} {us:List Value} {ps:List PV} {Bs:List Nat} {y:Nat},RRs P w S' tys ts us ps Bs->(∀i p,ps[i]?=some p->X.e[y+i]?=some p)->Sp X.e (CI P tys ts y) λ_=>RRs P w S tys ts us ps Bs
 |[],ts,us,ps,Bs,y,h,_=>by cases h;exact .ret .nil
 |t::tys,ts,us,ps,Bs,y,h,hy=>by
  cases h with
  |cons h k=>
   rename_i v vs p qs Bs Cs;have hp:A.ev X.e (.x y)=some p:=hy 0 p rfl;have ih:=KC (S:=S) (y:=y+1) k λi p hi=>by rw[dK,qf 1];exact hy (i+1) p hi
   unfold CI;split
   .rename_i hs;refine Sp.bind Sp.emit λa ha=>?_;obtain⟨xs,r,g1,g2,g3⟩:=ha;obtain⟨p',g4,rfl⟩:=yX g1;rw[hp] at g4;cases g4;simp only[RF.ev] at g2;split at g2
    .rename_i hfl;refine ih.mono λ_ hr=> .cons ?_ hr;rw[hs] at h|-;unfold RR at h|-;split at h
     .obtain⟨ar,cs,rfl,rfl,h0,h⟩:=h;refine⟨ar,cs,rfl,rfl,h0,?_⟩;rcases h with⟨h1,h2,h⟩|h
      .exact .inl ⟨h1,h2,xB hfl h⟩
      .generalize ar.toList=al at h;cases h;exact .inl ⟨rfl,rfl,.nil⟩
     .rcases h with⟨h1,h2,h,h0⟩|h
      .have hv:isV p=true:=by
        cases p with
        |agg cs=>cases h0
        |v x=>rfl
        |sl els=>simpa [PV.cells] using hfl
       exact .inl ⟨h1,h2,Ed hv h,h0⟩
      .cases h
     .exact h
    .cases g2
   .rename_i z hs;split
    .rename_i hag;refine Sp.bind Sp.emit λa ha=>?_;obtain⟨xs,r,g1,g2,g3⟩:=ha;obtain⟨p',g4,rfl⟩:=yX g1;rw[hp] at g4;cases g4;rw[hs] at h;unfold RR at h;rw[hag] at h;refine ih.mono λ_ hr=> .cons ?_ hr;rw[hs];unfold RR;rw[hag];rcases h with⟨h,_⟩|h
     .cases h
     .cases h with
      |own hz h t=>
       cases t;rename_i els _;obtain⟨cap,arr,o1,o2,o3,o4,o5,o6⟩:=h;simp only[RF.ev] at g2;split at g2
       .rename_i hfl;exact .inr (.own hz ⟨cap,arr,o1,o2,o3,o4,o5,xB hfl o6⟩ .nil)
       .cases g2
      |none hz h t=>cases t;exact .inr (.none hz h .nil)
    .exact .fail
   .exact .fail
def xC {e:List PV}{a:A}{p:PV}:∀{as:List A} {ps:List PV},evs e as=some ps->a.ev e=some p->evs e (as++[a])=some (ps++[p])
 |[],_,h,k=>by cases h;exact kj k rfl
 |b::as,ps,h,k=>by
  simp[evs] at h;split at h
  .rename_i v hv;split at h
   .rename_i ws hw;cases h;exact kj hv (xC hw k)
   .cases h
  .cases h
def Mj (hΦ:∀g ps rs,Φ g ps=some rs->jo D g ps rs)(hL:D.loud=true->L base)(hm:MR X base L){a:Act}(hρ:EvR X a.eval){o:Oper}{m:Nat}{r:Ores}(hd:pK D X.σ o.op m=some r)(ho:rd Φ X.e m r)(hN:r.σ.nb<=X.N):
  tq D.P o a X.w λv w'=>∃X',X'.w=w'/\ X'.σ=r.σ/\ VR X' v r.sv/\ Nx X base L X':=by
 unfold pK at hd;split at hd
 .rename_i sv σ' l z he;cases hd;obtain⟨hl,_⟩:=ho;obtain⟨h1,h2⟩:=v8 hm hρ (o:=o) m X.σ.sz _ _ _ he hl hm.sz;obtain⟨v,X',k1,k2,k3,rfl⟩:=h2 (λ_ _ h=>by cases h) hN;have hst:=qP k3.mr (σ':=X.σ.wz X'.σ (z++X.σ.sz)) (λ_=>rfl) rfl (by rw[k3.e];exact h1.append hm.sz) k3.mr.fc;exact .inl ⟨v,X'.w,k1,{X' with σ:=X.σ.wz X'.σ (z++X.σ.sz)},rfl,rfl,k2.step hst.sx,k3.trans hst⟩
 .rename_i g args l z he;split at hd
  .cases hd
  .rename_i hg;simp only[eP,Bool.not_eq_false'] at hg;split at hd
   .rename_i ld hld;split at hd
    .rename_i x args' hlw;split at hd
     .rename_i b sb l0 n0 hlb;split at hd
      .rename_i as bs l2 z2 hdeep;split at hd
       .cases hd
       .rename_i hnb;split at hd
        .rename_i fn hfn;split at hd
         .rename_i lc lp zp hlc;split at hd
          .rename_i ld' lq zq hld';split at hd
           .rename_i ws σ' l3 z3 hres;cases hd;obtain⟨hl,hcal⟩:=ho;obtain⟨xs,ys,q1,q2,q3,q4⟩:=hcal _ _ _ rfl;simp only at q3 q4 hl;have hl2:=hl.left.right;have hl3:=hl.right;rw[aD,<-dK] at hl3;obtain⟨h1,h2⟩:=v8 hm hρ (o:=o) m X.σ.sz _ _ _ he hl.left.left hm.sz;obtain⟨vs,k1,k2⟩:=h2 (λg' args' h=>by cases h;exact xA hg.2);obtain⟨vs0,v,k2',hvx,hvs⟩:=E3 k2 hlw;obtain⟨h3,⟨ps,k3,k4⟩,k5⟩:=oW hm k2' _ _ _ _ _ hdeep hl2 (h1.append hm.sz);obtain⟨hlk,q,hlb,hq⟩:=Vq hm hvx hlb;obtain⟨h7,p,p1,p2⟩:=Vr (hm.bl b sb hlk) hlb hq _ _ _ _ _ hlc hl3 (h3.append (h1.append hm.sz));have hps:evs X.e (as++[lc])=some (ps++[p]):=xC k3 p1;rw[hps] at q1;injection q1 with q1;subst q1
            have hfz:=xw hm k5;obtain⟨fn',ps0,p0,rs0,p',hfn',_,_,hlen,e1,rfl,hans⟩:=(hΦ g _ ys q2).lent hld;rw[hfn] at hfn';cases hfn';obtain⟨e2,e3⟩:=tF e1 rfl;subst e2;cases e3;obtain⟨w1,w2,w3⟩:=hlb.kd ld';have hlk':look (X.fz bs).σ.bl b=some sb:=by
             show look (dF X.σ bs).bl b=_
             rw[lS,ac (λh=>by simp[h] at hnb)];exact hlk
            have hnS:∀B,Lof q B->¬frS X bs B:=λB ⟨l',hB⟩ hS=>by
             have hr:X.ρ b=some (B,l'):=hq.elim (λe=>e.symm.trans hB) λe=>by rw[e] at hB;cases hB
             have:=(hfz.mr.own b sb B l' hlk' hr).2;exact absurd (w2.symm.trans (this.1 hS)) (by simp)
            have hcalls:=hans X.w (frS X bs) vs0 q v k4 (p2.mono CO) hnS hfz.mr.cur;refine .inr ⟨g,vs,k1,(show vs=(qO ld v vs0).toArray by unfold qO;rw[<-hvs])▸hcalls.mono ?_⟩
            rintro e w' ⟨u,S',us,Bs,rfl,haft,hpost⟩;refine⟨u,rfl,?_⟩;cases hgv:ld.gv with
            |true=>
             rw[hgv] at hres;have hzq:zq=[]:=by
              cases hk:ld.k<;>(rw[hk] at hld';cases hld';rfl)
             have h8:jC X.e (zq++(zp++(z2++(z++X.σ.sz)))):=by
              rw[hzq];exact h7.append (h3.append (h1.append hm.sz))
             have hqB:∀B,Lof q B->∃l,X.ρ b=some (B,l):=λB ⟨l,h⟩=>hq.elim (λe=>⟨l,e.symm.trans h⟩) λe=>by rw[e] at h;cases h
             have hkl:=D3 hfz.mr hlk';have hkb:∀{b':Nat} {sb':SB},look ((X.fz bs).kl b).σ.bl b'=some sb'->b'≠b/\ look (X.fz bs).σ.bl b'=some sb':=λ{b' sb'} h=>by
              have h:look (del (dF X.σ bs).bl b) b'=some sb':=h;rw[xq] at h;split at h
              .cases h
              .rename_i hne;exact⟨hne,h⟩
             have hQ':∀B,Lof q B->(base<=B\/L B)/\∀b' sb' l',look ((X.fz bs).kl b).σ.bl b'=some sb'->((X.fz bs).kl b).ρ b'≠some (B,l'):=λB hB=>by
              obtain⟨l',hr⟩:=hqB B hB;refine⟨(hfz.mr.own b sb B l' hlk' hr).1,λb' sb' l'' h1 h2=>?_⟩;obtain⟨g1,g2⟩:=hkb h1;exact g1 (hfz.mr.inj _ _ _ _ _ _ _ g2 hlk' h2 hr)
             have hQ:∀B,D.lf q X.w B->(base<=B\/L B)/\∀b' sb' l',look ((X.fz bs).kl b).σ.bl b'=some sb'->((X.fz bs).kl b).ρ b'≠some (B,l'):=λB hB=>hB.elim (hQ' B) λhB=>⟨.inl (bG hm.hb hB.2),λb' sb' l' h1 h2=>by
              obtain⟨_,g2⟩:=hkb h1;exact oP (ey hfz.mr g2 h2) hB.2⟩
             have hql:∀B,Lof q B->B<X.w.heap.size:=λB hB=>by
              obtain⟨l',hr⟩:=hqB B hB;exact ey hfz.mr hlk' hr
             have h4:=YI hkl.mr (Q:=D.lf q X.w) hQ haft.kp haft.cur (λB hB=>(haft.new B hB).imp id λh=>h.imp id λh=> .inl h.2) haft.fr (C6 hL hql);have hfree:nS {(X.fz bs).kl b with w:=w',S:=S'} base L Bs:=⟨haft.nd,λB hB=>by
              obtain⟨o1,o2,o3⟩:=haft.own B hB;refine⟨?_,o2,λb' sb' l' g1 g2=>?_⟩
              .rcases o1 with o1|o1
               .exact .inl (bG hm.hb o1)
               .exact(hQ' B o1.2).1
              .rcases o1 with o1|o1
               .obtain⟨_,g3⟩:=hkb g1;have:=ey hfz.mr g3 g2;exact absurd o1 (oP this)
               .exact(hQ' B o1.2).2 b' sb' l' g1 g2⟩
             have q4:gl X.e (m+(l++l2++lp).length+(fn.resultTypes.size+1)) (lq++l3):=by rw[<-hlen];simpa using q4
             obtain⟨h5,h6⟩:=ti h4.mr haft.rr hfree (y:=m+(l++l2++lp).length) (λi p hp=>q3 i p (by rw[aH (aC.1 hp).1];exact hp)) _ _ _ _ _ hres q4.right h8;obtain⟨X',n1,n2,rfl⟩:=h6 hN;have n3:=((hfz.trans hkl).trans h4).trans n2.nx;have hst:=qP n3.mr (σ':=X.σ.wz X'.σ (z3++(zq++(zp++(z2++(z++X.σ.sz)))))) (λ_=>rfl) rfl (by rw[n3.e];exact h5.append h8) n3.mr.fc;exact⟨{X' with σ:=X.σ.wz X'.σ (z3++(zq++(zp++(z2++(z++X.σ.sz)))))},n2.w,rfl,by rw[haft.u];exact(sJ n1).step hst.sx,n3.trans hst⟩
            |false=>
            rw[hgv] at hres;unfold C5 at hpost;rw[hgv] at hpost;obtain⟨hlr,htl⟩:=hpost;have hgq:∀B,¬GvQ ld q B:=λB h=>by have:=h.1;rw[hgv] at this;cases this
            have hy:A.ev X.e (.x (m+(l++l2++lp).length+fn.resultTypes.size))=some p':=q3 fn.resultTypes.size p' (by rw[<-hlen];simp);have q4:gl X.e (m+(l++l2++lp).length+(fn.resultTypes.size+1)) (lq++l3):=by rw[<-hlen];simpa using q4
            obtain⟨h8,hbr⟩:=Vs (hfz.mr.bl b sb hlk') (y:= .x (m+(l++l2++lp).length+fn.resultTypes.size)) (w':=w') (S':=S') hlb hq hlr hy htl haft.kp (λe B l' hr=>haft.fr.block B (ey hfz.mr hlk' hr) λh=>by obtain⟨_,h⟩:=Pb (ey hfz.mr hlk' hr) h;rw[e] at h;cases h) _ _ _ _ _ hld' q4.left (h7.append (h3.append (h1.append hm.sz)));have h4:=YB hfz.mr (q:=q) hlk' hq w2 w3 w1 haft.kp haft.cur (λB hB=>(haft.new B hB).imp id λh=>h.resolve_right (hgq B)) haft.fr (λB hB h=>Pb hB h) (C6 hL λB ⟨l',h⟩=>hq.elim (λe=>ey hfz.mr hlk' (e.symm.trans h)) λe=>by rw[e] at h;cases h) (hbr _);have hfree:nS {X.fz bs with w:=w',S:=S',σ:=(dF X.σ bs).lent b (sj sb ld')} base L Bs:=⟨haft.nd,λB hB=>by
             obtain⟨o1,o2,o3⟩:=haft.own B hB;have o1:=o1.resolve_right (hgq B);refine⟨.inl (bG hm.hb o1),o2,λb' sb' l' g1 g2=>?_⟩;have g1:look (put (dF X.σ bs).bl b (sj sb ld')) b'=some sb':=g1;rw[dO] at g1;have:B<X.w.heap.size:=by
              split at g1
              .rename_i e;subst e;exact ey hfz.mr hlk' g2
              .exact ey hfz.mr g1 g2
             omega⟩
            obtain⟨h5,h6⟩:=ti h4.mr haft.rr hfree (y:=m+(l++l2++lp).length) (λi p hp=>q3 i p (by rw[aH (aC.1 hp).1];exact hp)) _ _ _ _ _ hres q4.right (h8.append (h7.append (h3.append (h1.append hm.sz))));obtain⟨X',n1,n2,rfl⟩:=h6 hN;have n3:=(hfz.trans h4).trans n2.nx;have hst:=qP n3.mr (σ':=X.σ.wz X'.σ (z3++(zq++(zp++(z2++(z++X.σ.sz)))))) (λ_=>rfl) rfl (by rw[n3.e];exact h5.append (h8.append (h7.append (h3.append (h1.append hm.sz))))) n3.mr.fc;exact⟨{X' with σ:=X.σ.wz X'.σ (z3++(zq++(zp++(z2++(z++X.σ.sz)))))},n2.w,rfl,by rw[haft.u];exact(sJ n1).step hst.sx,n3.trans hst⟩
           .cases hd
          .cases hd
         .cases hd
        .cases hd
      .cases hd
     .cases hd
    .cases hd
   .rename_i hld;split at hd
    .rename_i as bs l2 z2 hdeep;split at hd
     .rename_i fn hfn;split at hd
      .rename_i hth;unfold afi at hth;simp only[aJ] at hth;split at hd
       .rename_i ws l3 z3 hres;cases hd;obtain⟨hl,hcal⟩:=ho;obtain⟨xs,ys,q1,q2,q3,q4⟩:=hcal _ _ _ rfl;simp only[aD,<-dK] at q3 q4;obtain⟨h1,h2⟩:=v8 hm hρ (o:=o) m X.σ.sz _ _ _ he hl.left hm.sz;obtain⟨vs,k1,k2⟩:=h2 (λg' args' h=>by cases h;exact xA hg.2);obtain⟨h3,⟨ps,k3,k4⟩,k5⟩:=oW hm k2 _ _ _ _ _ hdeep hl.right (h1.append hm.sz);rw[k3] at q1;injection q1 with q1;subst q1
        have hfz:=xw hm k5;obtain⟨fn',hfn',_,_,hlen,hans⟩:=(hΦ g _ ys q2).plain hld;rw[hfn] at hfn';cases hfn';have hcalls:=hans X.w (frS X bs) vs k4 hfz.mr.cur;rw[hlen] at q4;refine .inr ⟨g,vs,k1,hcalls.mono ?_⟩;rintro e w' ⟨u,S',us,Bs,rfl,haft⟩;refine⟨u,rfl,?_⟩;have h4:=A2 hm haft.fr (λk hk=>Ah hk) (C6 hL Kw);obtain⟨h5,h6⟩:=KB (X:={X with w:=w'}) hth.2 haft.rr (y:=m+l.length+l2.length) (λi p hp=>q3 i p hp) _ _ _ _ _ hres q4 ((h3.append (h1.append hm.sz)))
        have hst:=qP h4.mr (σ':=X.σ.wz X.σ (z3++(z2++(z++X.σ.sz)))) (λ_=>rfl) rfl (h5.append (h3.append (h1.append hm.sz))) h4.mr.fc;exact⟨{X with w:=w',σ:=X.σ.wz X.σ (z3++(z2++(z++X.σ.sz)))},rfl,rfl,by rw[haft.u];exact(sJ h6).step hst.sx,h4.trans hst⟩
       .cases hd
      .split at hd
       .split at hd
        .rename_i lq zq hfm;split at hd
         .rename_i ws σ' l3 z3 hres;cases hd;obtain⟨hl,hcal⟩:=ho;obtain⟨xs,ys,q1,q2,q3,q4⟩:=hcal _ _ _ rfl;simp only[aD,<-dK] at q3 q4;obtain⟨h1,h2⟩:=v8 hm hρ (o:=o) m X.σ.sz _ _ _ he hl.left hm.sz;obtain⟨vs,k1,k2⟩:=h2 (λg' args' h=>by cases h;exact xA hg.2);obtain⟨h3,⟨ps,k3,k4⟩,k5⟩:=oW hm k2 _ _ _ _ _ hdeep hl.right (h1.append hm.sz);rw[k3] at q1;injection q1 with q1;subst q1
          have hfz:=xw hm k5;obtain⟨fn',hfn',_,_,hlen,hans⟩:=(hΦ g _ ys q2).plain hld;rw[hfn] at hfn';cases hfn';have hcalls:=hans X.w (frS X bs) vs k4 hfz.mr.cur;rw[hlen] at q4;refine .inr ⟨g,vs,k1,hcalls.mono ?_⟩;rintro e w' ⟨u,S',us,Bs,rfl,haft⟩;refine⟨u,rfl,?_⟩;have h4:=A2 hm haft.fr (λk hk=>Ah hk) (C6 hL Kw);obtain⟨h5,hrr⟩:=KC (X:={X with w:=w'}) (S:=X.S) haft.rr (y:=m+l.length+l2.length) (λi p hp=>q3 i p hp) _ _ _ _ _ hfm q4.left (h3.append (h1.append hm.sz))
          have hfree:nS {X with w:=w'} base L Bs:=⟨haft.nd,λB hB=>by
           obtain⟨o1,o2,o3⟩:=haft.own B hB;have o1:=o1.resolve_right id;refine⟨.inl (bG hm.hb o1),λh=>o2 (haft.kp.sub _ (.inl h)),λb sb l' g1 g2=>?_⟩;have:=ey hm g1 g2;omega⟩
          obtain⟨h6,h7⟩:=ti h4.mr hrr hfree (y:=m+l.length+l2.length) (λi p hp=>q3 i p hp) _ _ _ _ _ hres q4.right (h5.append (h3.append (h1.append hm.sz)));obtain⟨X',n1,n2,rfl⟩:=h7 hN;have n3:=h4.trans n2.nx;have hst:=qP n3.mr (σ':=X.σ.wz X'.σ (z3++(zq++(z2++(z++X.σ.sz))))) (λ_=>rfl) rfl (by rw[n3.e];exact h6.append (h5.append (h3.append (h1.append hm.sz)))) n3.mr.fc;exact⟨{X' with σ:=X.σ.wz X'.σ (z3++(zq++(z2++(z++X.σ.sz))))},n2.w,rfl,by rw[haft.u];exact(sJ n1).step hst.sx,n3.trans hst⟩
         .cases hd
        .cases hd
       .split at hd
        .rename_i ws σ' l3 z3 hres;cases hd;obtain⟨hl,hcal⟩:=ho;obtain⟨xs,ys,q1,q2,q3,q4⟩:=hcal _ _ _ rfl;simp only[aD,<-dK] at q3 q4;obtain⟨h1,h2⟩:=v8 hm hρ (o:=o) m X.σ.sz _ _ _ he hl.left hm.sz;obtain⟨vs,k1,k2⟩:=h2 (λg' args' h=>by cases h;exact xA hg.2);obtain⟨h3,⟨ps,k3,k4⟩,k5⟩:=oW hm k2 _ _ _ _ _ hdeep hl.right (h1.append hm.sz);rw[k3] at q1;injection q1 with q1;subst q1
         have hfz:=xw hm k5;obtain⟨fn',hfn',_,_,hlen,hans⟩:=(hΦ g _ ys q2).plain hld;rw[hfn] at hfn';cases hfn';have hcalls:=hans X.w (frS X bs) vs k4 hfz.mr.cur;rw[hlen] at q4;refine .inr ⟨g,vs,k1,hcalls.mono ?_⟩;rintro e w' ⟨u,S',us,Bs,rfl,haft⟩;refine⟨u,rfl,?_⟩;have h4:=afq hfz.mr haft.kp haft.cur (λB hB=>(haft.new B hB).imp id λh=>h.resolve_right id) haft.fr (λk hk=>Ah hk) (C6 hL Kw);have hfree:nS {X.fz bs with w:=w',S:=S'} base L Bs:=⟨haft.nd,λB hB=>by
          obtain⟨o1,o2,o3⟩:=haft.own B hB;have o1:=o1.resolve_right id;refine⟨.inl (bG hm.hb o1),o2,λb sb l' g1 g2=>?_⟩;have:=ey hfz.mr g1 g2;have:B<X.w.heap.size:=this;omega⟩
         obtain⟨h5,h6⟩:=ti h4.mr haft.rr hfree (y:=m+l.length+l2.length) (λi p hp=>q3 i p hp) _ _ _ _ _ hres q4 ((h3.append (h1.append hm.sz)));obtain⟨X',n1,n2,rfl⟩:=h6 hN;have n3:=(hfz.trans h4).trans n2.nx;have hst:=qP n3.mr (σ':=X.σ.wz X'.σ (z3++(z2++(z++X.σ.sz)))) (λ_=>rfl) rfl (by rw[n3.e];exact h5.append (h3.append (h1.append hm.sz))) n3.mr.fc;exact⟨{X' with σ:=X.σ.wz X'.σ (z3++(z2++(z++X.σ.sz)))},n2.w,rfl,by rw[haft.u];exact(sJ n1).step hst.sx,n3.trans hst⟩
        .cases hd
     .cases hd
    .cases hd
 .cases hd
end
def od (acc:Array Nat)(o:Oper):Nat:=o.after.foldl (λs e=>if Region.binds .any e then s|||2^ e.on|||acc.getD e.on 0 else s) 0
def E5 (ops:Array Oper):Region.before ops=ops.toList.foldl (λacc o=>acc.push (od acc o)) #[]:=by
 unfold Region.before;rw[<-np];rfl
def Ay:∀(l:List Oper) (acc:Array Nat),(l.foldl (λacc o=>acc.push (od acc o)) acc).size=acc.size+l.length/\
  (∀j,j<acc.size->(l.foldl (λacc o=>acc.push (od acc o)) acc)[j]?=acc[j]?)/\
  ∀k o,l[k]?=some o->∃acc':Array Nat,acc'.size=acc.size+k/\(∀j,j<acc'.size->(l.foldl (λacc o=>acc.push (od acc o)) acc)[j]?=acc'[j]?)/\(l.foldl (λacc o=>acc.push (od acc o)) acc)[acc.size+k]?=some (od acc' o)
 |[],acc=>⟨by simp,λ_ _=>rfl,λk o h=>by simp at h⟩
 |o::l,acc=>by
  obtain⟨h1,h2,h3⟩:=Ay l (acc.push (od acc o));simp;refine⟨by rw[h1];simp;omega,λj hj=>?_,λk o' hk=>?_⟩
  .rw[h2 j (by simp;omega),u7 hj];simp[hj]
  .cases k with
   |zero=>
    simp at hk;subst hk;refine⟨acc,rfl,λj hj=>?_,?_⟩
    .rw[h2 j (by simp;omega),u7 hj];simp
    .rw[ny,h2 acc.size (by simp)];simp
   |succ k=>
    simp at hk;obtain⟨acc',e1,e2,e3⟩:=h3 k o' hk;refine⟨acc',by rw[e1];simp;omega,e2,?_⟩;have:acc.size+(k+1)=(acc.push (od acc o)).size+k:=by simp;omega
    rw[this];exact e3
def S5 (acc:Array Nat)(o:Oper)(i:Nat)(h:(od acc o).testBit i=true):∃e∈o.after,Region.binds .any e=true/\(i=e.on\/(acc.getD e.on 0).testBit i=true):=by
 unfold od at h;rw[<-np] at h;have key:∀(l:List Edge) (s:Nat),(l.foldl (λs e=>if Region.binds .any e then s|||2^ e.on|||acc.getD e.on 0 else s) s).testBit i=true->s.testBit i=true\/∃e∈l,Region.binds .any e=true/\(i=e.on\/(acc.getD e.on 0).testBit i=true):=by
  intro l;induction l with
  |nil=>intro s h;exact .inl h
  |cons e l ih=>
   intro s h;rcases ih _ h with h|⟨e',h1,h2⟩
   .grind
   .exact .inr ⟨e',by simp[h1],h2⟩
 rcases key _ _ h with h|⟨e,h1,h2⟩
 .simp at h
 .exact⟨e,by simpa using h1,h2⟩
def rK (ops:Array Oper)(S:Nat->Prop):Prop:=∀j o,S j->ops[j]?=some o->∀e∈o.after,Region.binds .any e=true->S e.on
def uU {ops:Array Oper}{S:Nat->Prop}(hd:rK ops S):∀(j i:Nat),S j->bfr (Region.before ops) i j=true->S i:=by
 intro j;induction j using Nat.strongRecOn with
 |_ j ih=>
  intro i hj hb;unfold bfr at hb;rw[E5] at hb;obtain⟨h1,h2,h3⟩:=Ay ops.toList #[];cases ho:ops[j]? with
  |none=>
   grind
  |some o=>
   obtain⟨acc',e1,e2,e3⟩:=h3 j o (by simpa using ho)
   have e1':acc'.size=j:=by simpa using e1
   have e0:(#[]:Array Nat).size+j=j:=by simp
   rw[e0] at e3;have e3':(ops.toList.foldl (λacc o=>acc.push (od acc o)) #[]).getD j 0=od acc' o:=by
    simp_all
   rw[e3'] at hb;obtain⟨e,k1,k2,k3⟩:=S5 _ _ _ hb;have hse:=hd j o hj ho e k1 k2;rcases k3 with rfl|k3
   .exact hse
   .by_cases hlt:e.on<j
    .refine ih e.on hlt i hse ?_;unfold bfr;rw[E5,cy,e2 e.on (by omega),<-cy];exact k3
    .rw[cy,uZ (by omega)] at k3;simp at k3
def Lst (listed:Array Bool)(i:Nat):Prop:=listed.getD i false=true
def qQ (ops:Array Oper)(j:Nat):Option Tmp:=(ops[j]?).bind (·.dst)
def dM {listed:Array Bool}{i:Nat}(hi:i<listed.size)(j:Nat):Lst (listed.setIfInBounds i true) j↔j=i\/Lst listed j:=by
 unfold Lst;rw[cy,cy,qD]
 grind
section
variable {ops:Array Oper}
structure Ready (ops:Array Oper)(listed:Array Bool)(i:Nat):Prop where
 lt:i<ops.size
 new:¬Lst listed i
 deps:∀o,ops[i]?=some o->∀e∈o.after,Region.binds .any e=true->Lst listed e.on
def kW {listed:Array Bool}{i:Nat}(hd:rK ops (Lst listed))(hr:Ready ops listed i)(hsz:listed.size=ops.size):rK ops (Lst (listed.setIfInBounds i true)):=by
 have hi:i<listed.size:=by have:=hr.lt;omega
 intro j o hj ho e he hb;rw[dM hi] at hj|-;rcases hj with rfl|hj
 .exact .inr (hr.deps o ho e he hb)
 .exact .inr (hd j o hj ho e he hb)
def ordered {listed:Array Bool}{i j:Nat}(hd:rK ops (Lst listed))(hr:Ready ops listed i)(hsz:listed.size=ops.size)(_hne:i≠j)(hb:bfr (Region.before ops) (min i j) (max i j)=true):
  (j<i->Lst listed j)/\(i<j->¬Lst listed j):=by
 have hi:i<listed.size:=by have:=hr.lt;omega
 refine⟨λh=>?_,λh hj=>?_⟩
 .rw[gh (by omega),iJ (by omega)] at hb;have:=uU (kW hd hr hsz) i j ((dM hi i).2 (.inl rfl)) hb;rw[dM hi] at this
  grind
 .rw[bM (by omega),Nat.max_eq_right (by omega)] at hb;exact hr.new (uU hd j i hj hb)
variable {listed:Array Bool}{i:Nat}
def lz (hr:i∈Region.ready .any ops listed):Ready ops listed i:=by
 unfold Region.ready at hr;simp only[bF,dc,aJ] at hr;obtain⟨h1,h2,h3⟩:=hr;have ho:ops[i]?=some ops[i]:=by simp
 refine⟨h1,?_,?_⟩
 .unfold Lst
  grind
 .intro o hoo e he hb;rw[ho] at hoo;cases hoo;rw[ho] at h3;simp only[cD,cC,iu] at h3;have:=h3 e he;rw[hb] at this;simpa [Lst] using this
def uu (hsz:listed.size=ops.size)(he:jH ops=true)(hn:Region.ready .any ops listed=[]):∀j,j<ops.size->Lst listed j:=by
 intro j;induction j using Nat.strongRecOn with
 |_ j ih=>
  intro hj;by_cases hl:Lst listed j
  .exact hl
  .exfalso;have ho:ops[j]?=some ops[j]:=by simp
   have:j∈Region.ready .any ops listed:=by
    unfold Region.ready;simp only[bF,dc,aJ,aE];refine⟨hj,?_,?_⟩
    .unfold Lst at hl
     grind
    .rw[ho];simp only[cD,cC,iu];intro e hee;unfold jH at he;rw[aV] at he;have h1:=he (ops[j],j) (by rw[fH];simp);simp only[iu] at h1;have h2:=h1 e hee;cases hb:Region.binds .any e with
     |false=>simp
     |true=>
      rw[hb] at h2;have hlt:e.on<j:=by simpa using h2
      have:=ih e.on hlt (by omega);simpa [Lst] using this
   grind
end
section
variable {α:Type}{ops:Array Oper}{listed:Array Bool}{i k n:Nat}{p:Nat->Prop}{val:Nat->α}
def FY {a:Nat}:∀{b:Nat},a<=b->(∀j,a<=j->j<b->val (j+1)=val j)->val b=val a
 |0,h,_=>by rw[show a=0 by omega]
 |b+1,h,hs=>by
  by_cases e:a=b+1
  .rw[e]
  .rw[hs b (by omega) (by omega),FY (by omega) λj h1 h2=>hs j h1 (by omega)]
structure UpTo (ops:Array Oper)(listed:Array Bool)(p:Nat->Prop)(k:Nat):Prop where
 le:k<=ops.size
 lt:∀j,j<k->p j->Lst listed j
 ge:∀j,k<=j->j<ops.size->p j->¬Lst listed j
def Ord (ops:Array Oper)(p:Nat->Prop)(i:Nat):Prop:=∀j,j<ops.size->i≠j->p j->bfr (Region.before ops) (min i j) (max i j)=true
def afr (hd:rK ops (Lst listed))(hr:Ready ops listed i)(hsz:listed.size=ops.size)(hk:UpTo ops listed p k)(ho:Ord ops p i)(hs:∀j,j<ops.size->¬p j->val (j+1)=val j):val k=val i:=by
 have hi:=hr.lt;by_cases h:k<=i
 .exact(FY h λj h1 h2=>hs j (by omega) λhp=>hk.ge j h1 (by omega) hp ((ordered hd hr hsz (by omega) (ho j (by omega) (by omega) hp)).1 h2)).symm
 .have:=hk.le;refine FY (by omega) λj h1 h2=>hs j (by omega) λhp=>?_;by_cases e:j=i
  .subst e;exact hr.new (hk.lt j h2 hp)
  .exact(ordered hd hr hsz (by omega) (ho j (by omega) (by omega) hp)).2 (by omega) (hk.lt j h2 hp)
def KD (hd:rK ops (Lst listed))(hr:Ready ops listed i)(hsz:listed.size=ops.size)(ho:Ord ops p i):UpTo ops (listed.setIfInBounds i true) p (i+1):=by
 have hi:=hr.lt;refine⟨hi,λj hj hp=>?_,λj h1 h2 hp hl=>?_⟩
 .rw[dM (by omega)];by_cases e:j=i
  .exact .inl e
  .exact .inr ((ordered hd hr hsz (by omega) (ho j (by omega) (by omega) hp)).1 (by omega))
 .rw[dM (by omega)] at hl;rcases hl with e|hl
  .omega
  .exact(ordered hd hr hsz (by omega) (ho j h2 (by omega) hp)).2 (by omega) hl
def Ee (hr:Ready ops listed i)(hsz:listed.size=ops.size)(hk:UpTo ops listed p k)(hp:¬p i):UpTo ops (listed.setIfInBounds i true) p k:=by
 have hi:=hr.lt;refine⟨hk.le,λj hj h=>(dM (by omega) j).2 (.inr (hk.lt j hj h)),λj h1 h2 h hl=>?_⟩;rw[dM (by omega)] at hl;rcases hl with rfl|hl
 .exact hp h
 .exact hk.ge j h1 h2 h hl
def KE (hk:UpTo ops listed p k)(hall:∀j,j<ops.size->Lst listed j)(hs:∀j,j<ops.size->¬p j->val (j+1)=val j):val k=val ops.size:=(FY hk.le λj h1 h2=>hs j h2 λhp=>hk.ge j h1 h2 hp (hall j h2)).symm
end
section
variable {α:Type}
def Vv (l k:List (Nat×α))(i:Nat):look (l++k) i=(look l i).or (look k i):=by
 induction l with
 |nil=>rfl
 |cons p l ih=>
  rw[aL,ee,ee,ih];split<;>rfl
def uV (f:Nat->Bool)(l:List (Nat×α))(i:Nat):look (l.filter λp=>f p.1) i=if f i then look l i else none:=by
 induction l with
 |nil=>simp[look]
 |cons p l ih=>
  rw[cS,ee];split
  .rename_i hj;rw[ee,ih]
   grind
  .grind
end
def Al {α:Type}(x:EM α)(Q:α->Prop):Prop:=∀m z a l z',x m z=some (a,l,z')->Q a
def Al.ret {α:Type}{a:α}{Q:α->Prop}(h:Q a):Al (EM.ret a) Q:=λ_ _ _ _ _ e=>by cases e;exact h
def Al.fail {α:Type}{Q:α->Prop}:Al (fail:EM α) Q:=λ_ _ _ _ _ e=>by cases e
def Al.bind {α β:Type}{x:EM α}{f:α->EM β}{Q:β->Prop}(h:∀a,Al (f a) Q):Al (EM.bind x f) Q:=by
 intro m z b l z' e;unfold EM.bind at e;split at e
 .split at e
  .rename_i h2;cases e;exact h _ _ _ _ _ _ h2
  .cases e
 .cases e
def Al.bindP {α β:Type}{x:EM α}{f:α->EM β}{P:α->Prop}{Q:β->Prop}(k:Al x P)(h:∀a,P a->Al (f a) Q):Al (EM.bind x f) Q:=by
 intro m z b l z' e;unfold EM.bind at e;split at e
 .rename_i h1;split at e
  .rename_i h2;cases e;exact h _ (k _ _ _ _ _ h1) _ _ _ _ _ h2
  .cases e
 .cases e
def Mk {P:Program}{σ:SS}{op:Op}(h:tc op=true):Al (opE P σ op) λr=>∃sv,r= .val sv σ:=by
 cases op<;>first|(cases h;done)|skip
 case call c=>
  have key:∀args b,(b=Builtin.len\/b= .max\/b= .min)->Al (s7 P σ b c.argTypes.toList args) λp=>p.2=σ:=by
   rintro args b (rfl|rfl|rfl)<;>unfold s7<;>(repeat' (first|exact Al.fail|contradiction|exact Al.ret ⟨_,rfl⟩|exact Al.ret rfl|refine Al.bind λ_=>?_|split))
  unfold opE;refine .bind λargs=>?_;cases hc:c.callee with
  |builtin b=>
   have hb:b=Builtin.len\/b= .max\/b= .min:=by
    simp only[tc,hc] at h
    grind
   exact Al.bindP (key args b hb) λp hp=> .ret ⟨_,by rw[hp]⟩
  |_=>simp[tc,hc] at h
 case slice t x lo hi mx=>
  cases mx with
  |none=>unfold opE yU;(repeat' (first|exact Al.fail|contradiction|exact Al.ret ⟨_,rfl⟩|exact Al.ret rfl|refine Al.bind λ_=>?_|split))
  |some mx=>cases hi with
   |none=>exact .fail
   |some hi=>unfold opE yU;(repeat' (first|exact Al.fail|contradiction|exact Al.ret ⟨_,rfl⟩|exact Al.ret rfl|refine Al.bind λ_=>?_|split))
 case makeFunc g a c=>cases g<;>first|exact .fail|(unfold opE;(repeat' (first|exact Al.fail|contradiction|exact Al.ret ⟨_,rfl⟩|exact Al.ret rfl|refine Al.bind λ_=>?_|split)))
 all_goals (unfold opE;(try unfold yT);(try unfold yU);(repeat' (first|exact Al.fail|contradiction|exact Al.ret ⟨_,rfl⟩|exact Al.ret rfl|refine Al.bind λ_=>?_|split)))
def S6 {D:Dcf}{σ:SS}{op:Op}{m:Nat}{r:Ores}(hp:tc op=true)(h:pK D σ op m=some r):r.σ.bl=σ.bl/\ r.σ.nb=σ.nb:=by
 unfold pK at h;split at h
 .rename_i he;cases h;obtain⟨_,e⟩:=Mk hp _ _ _ _ _ he;cases e;exact⟨rfl,rfl⟩
 .rename_i he;obtain⟨_,e⟩:=Mk hp _ _ _ _ _ he;cases e
 .cases h
section
variable {X:Cx}
def YJ {σ:SS}(hfc:∀p∈σ.fc,X.e[p.1]?=some p.2){v:Value}{sv:SV}(h:VR X v sv):VR X v (Cz σ sv):=by
 unfold Cz;split
 .rename_i i;split
  .rename_i b hb;have h1:=hfc _ (fB hb);cases h with
   |w h=>cases h with
    |c h=>cases h with
     |a h ht r=>
      rw[show A.ev X.e (.x i)=X.e[i]? from rfl,h1] at h;cases h
      exact .w (.c (.a rfl ht r))
  .exact h
 .exact h
def zj {σ:SS}{a:Act}{ops:Array Oper}{o:Oper}{b:Bool}(hfc:∀p∈σ.fc,X.e[p.1]?=some p.2)(hT:∀t∈Oper.looksAt ops o,∀sv,look σ.tm t=some sv->∃v,a.tmps[t]?=some v/\ VR X v sv)
  (h:s8 ops σ o=some (.go b)):Region.wanted o (yielded ops a.tmps)=b:=by
 unfold s8 at h;unfold Region.wanted;cases hg:o.guard with
 |none=>rw[hg] at h;cases h;rfl
 |some gw=>
  obtain⟨j,want⟩:=gw;rw[hg] at h;simp only at h|-;cases ht:(ops[j]?).bind (·.dst) with
  |none=>rw[ht] at h;cases h
  |some t=>
   rw[ht] at h;simp only at h;have hin:t∈Oper.looksAt ops o:=by
    unfold Oper.looksAt
    grind
   unfold yielded;rw[ht];simp only[bC];have hv:∀sv,opS σ (.tmp t)=some sv->∃v,a.tmps[t]?=some v/\ VR X v sv:=λsv h=>by
    simp only[opS] at h;split at h
    .rename_i u hu;cases h;obtain⟨v,h1,h2⟩:=hT t hin u hu;exact⟨v,h1,YJ hfc h2⟩
    .cases h
   split at h
   .rename_i c hc;cases h;obtain⟨v,h1,h2⟩:=hv _ hc;cases h2 with
    |w h2=>cases h2 with
     |c h2=>cases h2 with
      |a he ht' r=>
       cases he;cases r with
       |v hp=>rw[h1];cases c<;>cases want<;>rfl
   .cases h
   .rename_i hc;cases h;obtain⟨v,h1,h2⟩:=hv _ hc;cases h2 with
    |tup h2=>rw[h1];rfl
   .cases h
def nH {σ σ':SS}{dst:Option Tmp}{v:SV}(h:σ.setT dst v=some σ'):σ'.bl=σ.bl/\ σ'.nb=σ.nb/\ σ'.n=σ.n/\ σ'.fc=σ.fc/\ σ'.sz=σ.sz/\(∀t,look σ'.tm t=if dst=some t then some v else look σ.tm t)/\∀t,dst=some t->t<σ.n:=by
 unfold SS.setT at h;split at h
 .grind
 .rename_i t;split at h
  .rename_i hle;cases h;refine⟨rfl,rfl,rfl,rfl,rfl,λt'=>?_,λt' e=>by cases e;exact cg hle⟩;simp[dO]
   grind
  .cases h
def wa {a:Act}{dst:Option Tmp}{v:Value}{t:Tmp}(hlt:∀t,dst=some t->t<a.tmps.size):(a.put dst v).tmps[t]?=if dst=some t then some v else a.tmps[t]?:=by
 cases dst with
 |none=>simp[Act.put]
 |some d=>
  simp[Act.put]
  grind
def zk (a:Act)(dst:Option Tmp)(v:Value):(a.put dst v).defers=a.defers:=by cases dst<;>rfl
def tu (a:Act)(dst:Option Tmp)(v:Value):(a.put dst v).tmps.size=a.tmps.size:=by cases dst<;>simp[Act.put]
end
section
variable {D:Dcf}{Φ:FuncId->List PV->Option (List PV)}{E:List PV}{ops:Array Oper}{St:Nat->SS}{M:Nat->Nat}{Fp:Nat->FP}{base:Nat}{L:Nat->Prop}
inductive DStep (D:Dcf)(Φ:FuncId->List PV->Option (List PV))(E:List PV)(ops:Array Oper)(σ:SS)(m:Nat)(o:Oper):FP->SS->Prop
 |skip {σ':SS} (hg:s8 ops σ o=some (.go false)) (hs:σ.setT o.dst (.tup [])=some σ'):DStep D Φ E ops σ m o ⟨[],[]⟩ σ'
 |op {r:Ores} {σ':SS} (hg:s8 ops σ o=some (.go true)) (hd:pK D (σ.rs o.op (eK σ o.op)) o.op m=some r) (hdom:CK σ (eK σ o.op) r.σ=true) (ho:rd Φ E m r) (hs:(σ.mg (eK σ o.op) r.σ).setT o.dst r.sv=some σ'):DStep D Φ E ops σ m o (xp σ o.op r) σ'
structure SameF (σ σ':SS):Prop where
 tm:σ'.tm=σ.tm
 bl:σ'.bl=σ.bl
 nb:σ'.nb=σ.nb
 n:σ'.n=σ.n
 sz:σ'.sz=σ.sz
structure DT (D:Dcf)(Φ:FuncId->List PV->Option (List PV))(E:List PV)(ops:Array Oper)(St:Nat->SS)(M:Nat->Nat)(Fp:Nat->FP):Prop where
 step:∀i o,ops[i]?=some o->∃σ',DStep D Φ E ops (St i) (M i) o (Fp i) σ'/\ SameF σ' (St (i+1))
 fc:∀i,i<=ops.size->∀p∈(St i).fc,E[p.1]?=some p.2
def domOk_ok {σ σ':SS}{ns:List Nat}(h:CK σ ns σ'=true):σ.nb<=σ'.nb/\∀b sb,look σ'.bl b=some sb->(b∈ns/\∃sb',look σ.bl b=some sb')\/(σ.nb<=b/\ b<σ'.nb):=by
 unfold CK at h;rw[aJ] at h;refine⟨cg h.1,λb sb hl=>?_⟩;have:=aV.1 h.2 _ (fB hl);simp only[gC,aJ] at this;rcases this with⟨h1,h2⟩|⟨h1,h2⟩
 .exact .inl ⟨by simpa using h1,tN.1 h2⟩
 .exact .inr ⟨cg h1,cg h2⟩
def Aj {σ σ':SS}{ns:List Nat}(b:Nat):look (σ.mg ns σ').bl b=(look σ'.bl b).or (if b∈ns then none else look σ.bl b):=by
 show look (σ'.bl++σ.bl.filter λp=>!ns.elem p.1) b=_
 rw[Vv,uV (λx=>!ns.elem x)]
 grind
def Ef {σ:SS}{op:Op}{ns:List Nat}(b:Nat):look (σ.rs op ns).bl b=if b∈ns then look σ.bl b else none:=by
 show look (σ.bl.filter λp=>ns.elem p.1) b=_
 rw[uV (λx=>ns.elem x)]
 grind
def A9 {a b x:Nat}:x∈O0 a b↔a<=x/\ x<b:=by
 unfold O0;simp;exact⟨λ⟨y,h1,h2⟩=>by omega,λh=>⟨x-a,by omega,by omega⟩⟩
def fp_W {σ:SS}{op:Op}{r:Ores}{b:Nat}(h:b∈(xp σ op r).W):tc op=false/\(b∈eK σ op\/(σ.nb<=b/\ b<r.σ.nb)):=by
 unfold xp at h;split at h
 .cases h
 .rename_i hp;exact⟨hp,(b9.1 h).imp id A9.1⟩
def afs {σ:SS}{op:Op}{r:Ores}{b:Nat}:b∈(xp σ op r).F↔b∈eK σ op\/(σ.nb<=b/\ b<r.σ.nb):=by
 unfold xp;simp[A9]
def fp_nW {σ:SS}{op:Op}{r:Ores}{b:Nat}(h:b∉(xp σ op r).W):tc op=true\/(b∉eK σ op/\¬(σ.nb<=b/\ b<r.σ.nb)):=by
 unfold xp at h;split at h
 .grind
 .simp only[b9,A9,not_or] at h;exact .inr h
def Ml {σ σr:SS}{op:Op}{m:Nat}{r:Ores}{b:Nat}{l:List (Nat×SB)}(hd:pK D (σ.rs op (eK σ op)) op m=some r)(hdom:CK σ (eK σ op) r.σ=true)(hb:b∉(xp σ op r).W)(hl:b∈eK σ op->look l b=look σ.bl b):
  (look r.σ.bl b).or (if b∈eK σ op then none else look l b)=look l b:=by
 rcases fp_nW hb with hp|⟨h1,h2⟩
 .rw[(S6 hp hd).1,Ef]
  grind
 .rw[ac h1];cases h3:look r.σ.bl b with
  |none=>rfl
  |some sb=>rcases(domOk_ok hdom).2 b sb h3 with⟨h4,_⟩|h4
            .grind
            .grind
structure DFacts (σ:SS)(o:Oper)(fp:FP)(σ':SS):Prop where
 nb:σ.nb<=σ'.nb
 n:σ'.n=σ.n
 sz:σ'.sz=σ.sz
 bl:∀b,b∉fp.W->look σ'.bl b=look σ.bl b
 tm:∀t,o.dst≠some t->look σ'.tm t=look σ.tm t
 dom:(∀b sb,look σ.bl b=some sb->b<σ.nb)->∀b sb,look σ'.bl b=some sb->b<σ'.nb
def DStep.facts {σ σ':SS}{m:Nat}{o:Oper}{fp:FP}(h:DStep D Φ E ops σ m o fp σ'):DFacts σ o fp σ':=by
 cases h with
 |skip hg hs=>
  obtain⟨h1,h2,h3,_,h5,h6,_⟩:=nH hs;exact⟨by omega,h3,h5,λb _=>by rw[h1],λt ht=>by rw[h6,ac ht],λh b sb hl=>by rw[h2];rw[h1] at hl;exact h b sb hl⟩
 |op hg hd hdom ho hs=>
  rename_i r;obtain⟨h1,h2,h3,_,h5,h6,_⟩:=nH hs;obtain⟨k1,k2⟩:=domOk_ok hdom;have hnb:σ'.nb=r.σ.nb:=h2;refine⟨by omega,h3,h5,λb hb=>?_,λt ht=>by rw[h6,ac ht];rfl,λh b sb hl=>?_⟩
  .rw[h1,Aj];exact Ml (σr:=σ) hd hdom hb λ_=>rfl
  .rw[h1,Aj] at hl;cases h3:look r.σ.bl b with
   |some sb'=>
    grind
   |none=>
    grind
end
section
variable {X:Cx}{base:Nat}{L:Nat->Prop}
def LB (p:Prop)(X:Cx)(ns:List Nat)(B:Nat):Prop:=(∃b∈ns,∃sb l,look X.σ.bl b=some sb/\ X.ρ b=some (B,l))\/(p/\ X.w.heap.size<=B)
def Cx.rs (X:Cx)(σ:SS)(op:Op)(ns:List Nat)(N:Nat):Cx:={X with σ:=σ.rs op ns,N:=N}
def Xy {σ:SS}{op:Op}{ns:List Nat}{N:Nat}:Sx X (X.rs σ op ns N):=⟨⟨[],by simp[Cx.rs]⟩,λ_ _=>rfl,⟨λ_ h=>h,λ_ _=>rfl⟩,λ_ _ _ h=>h,λ_ h=>h⟩
def FZ {σ:SS}:Sx X {X with σ:=σ}:=⟨⟨[],by simp⟩,λ_ _=>rfl,⟨λ_ h=>h,λ_ _=>rfl⟩,λ_ _ _ h=>h,λ_ h=>h⟩
def ahl (p:Prop)(hm:MR X base L){σ:SS}{op:Op}{ns:List Nat}{N:Nat}(hs:∀b∈ns,look X.σ.bl b=look σ.bl b)(hfr:∀b,σ.nb<=b->b<N->¬X.nm b)(hsz:jC X.e σ.sz)(hfc:∀p∈σ.fc,X.e[p.1]?=some p.2):MR (X.rs σ op ns N) X.w.heap.size (LB p X ns):=by
 have hl:∀b sb,look (X.rs σ op ns N).σ.bl b=some sb->b∈ns/\ look X.σ.bl b=some sb:=λb sb h=>by
  have h:look (σ.rs op ns).bl b=some sb:=h;rw[Ef] at h
  grind
 have sx:Sx X (X.rs σ op ns N):=Xy;exact⟨λb sb h=>hm.lt b sb (hl b sb h).2,λb sb h=>hm.kd b sb (hl b sb h).2,hfr,λb sb h=>(hm.bl b sb (hl b sb h).2).step sx (hm.lt b sb (hl b sb h).2) λ_ _ _=>rfl,
  λb sb B l h hr=>⟨.inr (.inl ⟨b,(hl b sb h).1,sb,l,(hl b sb h).2,hr⟩),(hm.own b sb B l (hl b sb h).2 hr).2⟩,λb b' sb sb' B l l' h h'=>hm.inj b b' sb sb' B l l' (hl b sb h).2 (hl b' sb' h').2,hm.cur,aB _,hsz,hfc⟩
def ahm (hm:MR X base L){σ σm:SS}{op:Op}{ns:List Nat}{N:Nat}{X':Cx}{p:Prop}(hd:p->L base)(hx:Nx (X.rs σ op ns N) X.w.heap.size (LB p X ns) X')(hσ:∀b,look σm.bl b=(look X'.σ.bl b).or (if b∈ns then none else look X.σ.bl b))(hnm:∀b,X'.nm b->b<σm.nb)
  (hsz:jC X.e σm.sz) (hfc:∀p∈σm.fc,X.e[p.1]?=some p.2):MR {X' with σ:=σm} base L/\ Sx X {X' with σ:=σm}/\ Frm base L X.w X'.w/\∀B,X'.S B->X.S B\/base<=B\/L B:=by
 have sx:Sx X {X' with σ:=σm}:=⟨hx.sx.e,hx.sx.ρ,hx.sx.k,hx.sx.lv,hx.sx.nm⟩
 have sx':Sx X' {X' with σ:=σm}:=FZ
 have he:X'.e=X.e:=hx.e;have hl:∀b sb,look σm.bl b=some sb->look X'.σ.bl b=some sb\/(b∉ns/\ look X.σ.bl b=some sb):=λb sb h=>by
  rw[hσ] at h;cases h1:look X'.σ.bl b with
  |some sb'=>rw[h1] at h;exact .inl h
  |none=>
   grind
 have old:∀b sb B l,b∉ns->look X.σ.bl b=some sb->X.ρ b=some (B,l)->B<X.w.heap.size/\¬LB p X ns B:=λb sb B l hb h hr=>⟨ey hm h hr,λh0=>h0.elim (λ⟨b',hb',sb',l',h',hr'⟩=>hb (by rw[hm.inj b b' sb sb' B l l' h h' hr hr'];exact hb')) λh0=>oP (ey hm h hr) h0.2⟩;have own:∀B,X.w.heap.size<=B\/LB p X ns B->base<=B\/L B:=λB h=>h.elim (λh=> .inl (bG hm.hb h)) λh=>h.elim (λ⟨b',_,sb',l',h',hr'⟩=>(hm.own b' sb' B l' h' hr').1) λh=> .inl (bG hm.hb h.2);have hρ:∀b sb,look X.σ.bl b=some sb->X'.ρ b=X.ρ b:=λb sb h=>sx.ρ b (hm.lt b sb h);have new:∀B,X'.S B->X.S B\/X.w.heap.size<=B\/LB p X ns B:=hx.new;refine⟨⟨λb sb h=>?_,λb sb h=>?_,λb hb _ h=>?_,λb sb h=>?_,λb sb B l h hr=>?_,λb b' sb sb' B l l' h h' hr hr'=>?_,hx.mr.cur,bG hm.hb hx.mr.hb,?_,?_⟩,sx,⟨hx.fr.os,hx.fr.tape,hx.fr.output,hx.fr.size,λk hk hL=>?_,λh=>hx.fr.drawn λh0=>h0.elim (λ⟨b',_,sb',l',h',hr'⟩=>di _ (ey hm h' hr')) λh0=>h (hd h0.1)⟩,λB hB=>?_⟩
 .rcases hl b sb h with h|⟨_,h⟩
  .exact hx.mr.lt b sb h
  .exact sx.nm b (hm.lt b sb h)
 .rcases hl b sb h with h|⟨hb,h⟩
  .exact hx.mr.kd b sb h
  .refine(hx.kk b (hm.lt b sb h) ?_).1.trans (hm.kd b sb h);show look (σ.rs op ns).bl b=none
   rw[Ef,ac hb]
 .exact di _ (cd (hnm b h) hb)
 .rcases hl b sb h with h|⟨hb,h⟩
  .exact(hx.mr.bl b sb h).step sx' (hx.mr.lt b sb h) λ_ _ _=>rfl
  .exact(hm.bl b sb h).step sx (hm.lt b sb h) λB l hr=>hx.fr.block B (old b sb B l hb h hr).1 (old b sb B l hb h hr).2
 .rcases hl b sb h with h|⟨hb,h⟩
  .obtain⟨h1,h2⟩:=hx.mr.own b sb B l h hr;exact⟨own B h1,h2⟩
  .have hr:X.ρ b=some (B,l):=(hρ b sb h).symm.trans hr;obtain⟨h1,h2⟩:=hm.own b sb B l h hr;obtain⟨h3,h4⟩:=old b sb B l hb h hr;refine⟨h1,zH ⟨λhB=>?_,hx.sx.k.sub B⟩ h2⟩;rcases new B hB with h5|h5|h5
   .exact h5
   .omega
   .exact absurd h5 h4
 .have mix:∀{b b':Nat} {sb sb':SB} {l l':Nat},look X'.σ.bl b=some sb->X'.ρ b=some (B,l)->b'∉ns->look X.σ.bl b'=some sb'->X'.ρ b'=some (B,l')->False:=λ{b b' sb sb' l l'} h hr hb' h' hr'=>by
   have hr':X.ρ b'=some (B,l'):=(hρ b' sb' h').symm.trans hr';obtain⟨h3,h4⟩:=old b' sb' B l' hb' h' hr';rcases(hx.mr.own b sb B l h hr).1 with h5|h5
   .omega
   .exact h4 h5
  rcases hl b sb h with h|⟨hb,h⟩<;>rcases hl b' sb' h' with h'|⟨hb',h'⟩
  .exact hx.mr.inj b b' sb sb' B l l' h h' hr hr'
  .exact(mix h hr hb' h' hr').elim
  .exact(mix h' hr' hb h hr).elim
  .exact hm.inj b b' sb sb' B l l' h h' ((hρ b sb h).symm.trans hr) ((hρ b' sb' h').symm.trans hr')
 .show jC X'.e _;rw[he];exact hsz
 .show∀p∈σm.fc,X'.e[p.1]?=_;rw[he];exact hfc
 .have h1:k<X.w.heap.size:=cd hk hm.hb;exact hx.fr.block k h1 λh=>(own k (.inr h)).elim (λh=>by omega) hL
 .exact(new B hB).imp id λh=>own B h
end
section
variable {D:Dcf}{Φ:FuncId->List PV->Option (List PV)}{E:List PV}{ops:Array Oper}{St:Nat->SS}{M:Nat->Nat}{Fp:Nat->FP}{base:Nat}{L:Nat->Prop}{X0:Cx}
structure DI (E:List PV)(ops:Array Oper)(St:Nat->SS)(Fp:Nat->FP)(base:Nat)(L:Nat->Prop)(X0:Cx)(listed:Array Bool)(a:Act)(X:Cx):Prop where
 size:listed.size=ops.size
 down:rK ops (Lst listed)
 ds:a.defers=[]
 n:a.tmps.size=(St 0).n
 e:X.e=E
 mr:MR X base L
 nb:X.σ.nb=(St ops.size).nb
 sz:X.σ.sz=(St 0).sz
 fc:X.σ.fc=(St 0).fc
 cn:Cn X
 fresh:∀i,i<ops.size->¬Lst listed i->∀b,(St i).nb<=b->b<(St (i+1)).nb->¬X.nm b
 bl:∀b,∃k,UpTo ops listed (λj=>b∈(Fp j).W) k/\ look X.σ.bl b=look (St k).bl b
 tm:∀t,∃k,UpTo ops listed (λj=>qQ ops j=some t) k/\∀sv,look (St k).tm t=some sv->∃v,a.tmps[t]?=some v/\ VR X v sv
 sx:Sx X0 X
 fr:Frm base L X0.w X.w
 new:∀B,X.S B->X0.S B\/base<=B\/L B
structure DTs (ops:Array Oper)(St:Nat->SS)(Fp:Nat->FP):Prop where
 W:∀i j,i<ops.size->j<ops.size->i≠j->∀b,b∈(Fp i).W->b∈(Fp j).F->bfr (Region.before ops) (min i j) (max i j)=true
 tm:∀i j o,ops[i]?=some o->i≠j->∀t,t∈vV ops o->qQ ops j=some t->bfr (Region.before ops) (min i j) (max i j)=true
 dom:∀b sb,look (St 0).bl b=some sb->b<(St 0).nb
def DT.facts (ht:DT D Φ E ops St M Fp){i:Nat}{o:Oper}(ho:ops[i]?=some o):DFacts (St i) o (Fp i) (St (i+1)):=by
 obtain⟨σ',h1,h2⟩:=ht.step i o ho;have h3:=h1.facts;exact⟨by rw[h2.nb];exact h3.nb,h2.n.trans h3.n,h2.sz.trans h3.sz,λb hb=>by rw[h2.bl];exact h3.bl b hb,λt h=>by rw[h2.tm];exact h3.tm t h,λh b sb hl=>by rw[h2.nb];rw[h2.bl] at hl;exact h3.dom h b sb hl⟩
def DT.nb (ht:DT D Φ E ops St M Fp):∀{i j:Nat},i<=j->j<=ops.size->(St i).nb<=(St j).nb
 |i,0,h,_=>by rw[show i=0 by omega];exact aB _
 |i,j+1,h,hj=>by
  by_cases e:i=j+1
  .rw[e];exact aB _
  .exact bG (ht.nb (by omega) (by omega)) (ht.facts (o:=ops[j]) (by simp)).nb
def DT.n (ht:DT D Φ E ops St M Fp):∀{j:Nat},j<=ops.size->(St j).n=(St 0).n/\(St j).sz=(St 0).sz
 |0,_=>⟨rfl,rfl⟩
 |j+1,hj=>by
  have:=ht.facts (i:=j) (o:=ops[j]) (by simp);obtain⟨h1,h2⟩:=ht.n (j:=j) (by omega);exact⟨this.n.trans h1,this.sz.trans h2⟩
def DT.dom (ht:DT D Φ E ops St M Fp)(h0:∀b sb,look (St 0).bl b=some sb->b<(St 0).nb):∀{j:Nat},j<=ops.size->∀b sb,look (St j).bl b=some sb->b<(St j).nb
 |0,_=>h0
 |j+1,hj=>(ht.facts (i:=j) (o:=ops[j]) (by simp)).dom (ht.dom h0 (by omega))
def DT.bl (ht:DT D Φ E ops St M Fp)(b j:Nat)(hj:j<ops.size)(h:¬b∈(Fp j).W):look (St (j+1)).bl b=look (St j).bl b:=(ht.facts (o:=ops[j]) (by simp)).bl b h
def DT.tm (ht:DT D Φ E ops St M Fp)(t j:Nat)(hj:j<ops.size)(h:¬qQ ops j=some t):look (St (j+1)).tm t=look (St j).tm t:=(ht.facts (o:=ops[j]) (by simp)).tm t λe=>h (by unfold qQ;rw[show ops[j]?=some ops[j] by simp];exact e)
def DT.WF (ht:DT D Φ E ops St M Fp){j b:Nat}(hj:j<ops.size)(h:b∈(Fp j).W):b∈(Fp j).F:=by
 obtain⟨σ',h1,_⟩:=ht.step j ops[j] (by simp);generalize Fp j=fp at h h1;cases h1 with
 |skip=>cases h
 |op=>exact afs.2 (fp_W h).2
def YK (hΦ:∀g ps rs,Φ g ps=some rs->jo D g ps rs)(hL:D.loud=true->L base)(ht:DT D Φ E ops St M Fp)(hT:DTs ops St Fp){listed:Array Bool}{a:Act}{X:Cx}(hI:DI E ops St Fp base L X0 listed a X){i:Nat}(hr:Ready ops listed i){Q:Exit->Act->World->Prop}:
  wpOp D.P ops Q i (λa' w'=>∃X',X'.w=w'/\ DI E ops St Fp base L X0 (listed.setIfInBounds i true) a' X') a X.w:=by
 have hi:=hr.lt;have ho:ops[i]?=some ops[i]:=by simp
 generalize ops[i]=o at ho;unfold wpOp;rw[ho];simp only;have hd':=kW hI.down hr hI.size;have hdst:qQ ops i=o.dst:=by unfold qQ;rw[ho];rfl
 have tmp:∀t∈vV ops o,∀sv,look (St i).tm t=some sv->∃v,a.tmps[t]?=some v/\ VR X v sv:=λt hn sv hl=>by
  obtain⟨k,k1,k2⟩:=hI.tm t;have e:=afr (val:=λj=>look (St j).tm t) hI.down hr hI.size k1 (λj _ hne hp=>hT.tm i j o ho hne t hn hp) (λj hj hp=>ht.tm t j hj hp)
  grind
 have hfc:∀p∈(St i).fc,X.e[p.1]?=some p.2:=by rw[hI.e];exact ht.fc i (by omega)
 have lk:∀{t:Tmp},t∈Oper.looksAt ops o->t∈vV ops o:=λh=>gq _ h;have tms:∀{v:Value} {sv:SV} {X':Cx},Sx X X'->VR X' v sv->(∀t,look (St (i+1)).tm t=if o.dst=some t then some sv else look (St i).tm t)->(∀t,o.dst=some t->t<a.tmps.size)->
   ∀t,∃k,UpTo ops (listed.setIfInBounds i true) (λj=>qQ ops j=some t) k/\∀sv,look (St k).tm t=some sv->∃v',(a.put o.dst v).tmps[t]?=some v'/\ VR X' v' sv:=by
  intro v sv X' sx hv hset hlt t;by_cases hp:qQ ops i=some t
  .refine⟨i+1,KD hI.down hr hI.size λj _ hne hj=>hT.tm i j o ho hne t (dP _ (by rw[<-hdst,hp];simp)) hj,λsv' hl=>?_⟩;rw[hdst] at hp;rw[hset,ad hp] at hl;cases hl;exact⟨v,by rw[wa hlt,ad hp],hv⟩
  .obtain⟨k,k1,k2⟩:=hI.tm t;refine⟨k,Ee hr hI.size k1 hp,λsv' hl=>?_⟩;obtain⟨v',h1,h2⟩:=k2 sv' hl;exact⟨v',by rw[wa hlt,ac (by rw[<-hdst];exact hp)];exact h1,h2.step sx⟩
 obtain⟨σ',hst,hsame⟩:=ht.step i o ho;have ns:∀j,j<ops.size->i≠j->(St (j+1)).nb<=(St i).nb\/(St (i+1)).nb<=(St j).nb:=λj hj hne=>by
  by_cases h:j<i
  .exact .inl (ht.nb (by omega) (by omega))
  .exact .inr (ht.nb (by omega) (by omega))
 have fwd:∀{j:Nat},¬Lst (listed.setIfInBounds i true) j->¬Lst listed j/\ i≠j:=λ{j} h=>by
  rw[dM (by rw[hI.size];exact hi)] at h;exact⟨λh'=>h (.inr h'),λe=>h (.inl e.symm)⟩
 generalize hfpe:Fp i=fp at hst;cases hst with
 |skip hg hs=>
  rw[zj (X:=X) hfc (λt h=>tmp t (lk h)) hg,ac (by simp)];obtain⟨h1,h2,h3,_,h5,h6,h7⟩:=nH hs;refine⟨X,rfl,⟨by simpa using hI.size,hd',by rw[zk];exact hI.ds,by rw[tu];exact hI.n,hI.e,hI.mr,hI.nb,hI.sz,hI.fc,hI.cn,λj hj hn=>hI.fresh j hj (fwd hn).1,λb=>?_,tms .refl (.tup .nil) (λt=>by rw[hsame.tm];exact h6 t) (λt h=>by rw[hI.n,<-(ht.n (nz hi)).1];exact h7 t h),hI.sx,hI.fr,hI.new⟩⟩
  obtain⟨k,k1,k2⟩:=hI.bl b;exact⟨k,Ee hr hI.size k1 (by rw[hfpe];simp),k2⟩
 |op hg hd hdom hor hs=>
  rename_i r;rw[zj (X:=X) hfc (λt h=>tmp t (lk h)) hg,ad rfl];obtain⟨h1,h2,h3,_,h5,h6,h7⟩:=nH hs;have hnb':(St (i+1)).nb=r.σ.nb:=hsame.nb.trans h2;obtain⟨d1,d2⟩:=domOk_ok hdom;have hns:∀b∈eK (St i) o.op,look X.σ.bl b=look (St i).bl b:=λb hb=>by
   obtain⟨k,k1,k2⟩:=hI.bl b;exact k2.trans (afr (val:=λj=>look (St j).bl b) hI.down hr hI.size k1 (λj hj hne hp=>by
    have:=hT.W j i hj hi (λe=>hne e.symm) b hp (by rw[hfpe];exact afs.2 (.inl hb));rwa [zL,Nat.max_comm] at this) (λj hj hp=>ht.bl b j hj hp))
  have hm':=ahl (D.loud=true) hI.mr (op:=o.op) (ns:=eK (St i) o.op) (N:=(St (i+1)).nb) hns (hI.fresh i hi hr.new) (by rw[(ht.n (nz hi)).2,<-hI.sz];exact hI.mr.sz) hfc;have hρ:EvR (X.rs (St i) o.op (eK (St i) o.op) (St (i+1)).nb) a.eval:=by
   refine vZ hm' λt sv hl=>?_;have hl:look ((St i).tm.filter λp=>(Ka o.op).elem p.1) t=some sv:=hl;rw[uV (λx=>(Ka o.op).elem x)] at hl;split at hl
   .rename_i hin;have hin:t∈Ka o.op:=by simpa using hin
    have hin:t∈Oper.looksAt ops o:=by
     unfold Oper.looksAt;refine dP _ ?_;unfold Ka at hin;rw[List.mem_filterMap] at hin|-;obtain⟨x,hx,he⟩:=hin;exact⟨x,by simpa using hx,by cases x<;>first|exact he|cases he⟩
    obtain⟨v,v1,v2⟩:=tmp t (lk hin) sv hl;exact⟨v,v1,v2.step Xy⟩
   .cases hl
  have hop:=Mj hΦ (λh=> .inr ⟨h,aB _⟩) hm' hρ (o:=o) (m:=M i) hd (by show rd Φ X.e _ _;rw[hI.e];exact hor) (by show _<=(St (i+1)).nb;rw[hnb'];exact aB _)
  refine .inl (hop.wp ?_);rintro v w' ⟨X',rfl,x2,x3,x4⟩;have hnm:∀b,X'.nm b->X.nm b\/((St i).nb<=b/\ b<(St (i+1)).nb):=λb hb=>by
   have:=x4.nmb b hb;rw[x2] at this;rw[hnb'];exact this
  have hle:=ht.nb (i:=i+1) (j:=ops.size) hi (aB _)
  let σm:SS:={X.σ with bl:=r.σ.bl++X.σ.bl.filter λp=>!(eK (St i) o.op).elem p.1}
  have hσ:∀b,look σm.bl b=(look r.σ.bl b).or (if b∈eK (St i) o.op then none else look X.σ.bl b):=λb=>Aj (σ:=X.σ) (σ':=r.σ) (ns:=eK (St i) o.op) b
  have hcn:∀b,X'.nm b->b<σm.nb:=λb hb=>by
   show b<X.σ.nb
   rw[hI.nb];rcases hnm b hb with h|h
   .have:=hI.cn b h;rw[hI.nb] at this;exact this
   .omega
  obtain⟨m1,m2,m3,m4⟩:=ahm hI.mr hL x4 (σm:=σm) (by rw[x2];exact hσ) hcn hI.mr.sz hI.mr.fc;refine⟨{X' with σ:=σm},rfl,⟨by simpa using hI.size,hd',by rw[zk];exact hI.ds,by rw[tu];exact hI.n,x4.e.trans hI.e,m1,hI.nb,hI.sz,hI.fc,hcn,λj hj hn b b1 b2 hb=>?_,λb=>?_,tms m2 (x3.step FZ) (λt=>by rw[hsame.tm];exact h6 t) (λt h=>by rw[hI.n,<-(ht.n (nz hi)).1];exact h7 t h),hI.sx.trans m2,hI.fr.trans m3,λB hB=>(m4 B hB).elim (hI.new B) .inr⟩⟩
  .obtain⟨n1,n2⟩:=fwd hn;rcases hnm b hb with h|h
   .exact hI.fresh j hj n1 b b1 b2 h
   .rcases ns j hj n2 with h'|h'<;>omega
  .obtain⟨k,k1,k2⟩:=hI.bl b;show∃k,_/\ look σm.bl b=_
   by_cases hb:b∈(Fp i).W
   .refine⟨i+1,KD hI.down hr hI.size λj hj hne hp=>hT.W i j hi hj hne b hb (ht.WF hj hp),?_⟩;rw[hσ,hsame.bl,h1,Aj];rw[hfpe] at hb;by_cases hbn:b∈eK (St i) o.op
    .rw[ad hbn,ad hbn]
    .rw[ac hbn,ac hbn]
     congr 1
     rcases(fp_W hb).2 with h|h
     .exact absurd h hbn
     .have e1:look X.σ.bl b=none:=by
       cases hx:look X.σ.bl b with
       |none=>rfl
       |some sb=>exact absurd (hI.mr.lt b sb hx) (hI.fresh i hi hr.new b h.1 (by rw[hnb'];exact h.2))
      have e2:look (St i).bl b=none:=by
       cases hx:look (St i).bl b with
       |none=>rfl
       |some sb=>have:=ht.dom hT.dom (nz hi) b sb hx;omega
      rw[e1,e2]
   .refine⟨k,Ee hr hI.size k1 hb,?_⟩;rw[hσ,<-k2];rw[hfpe] at hb;exact Ml (σr:=X.σ) hd hdom hb (hns b)
end
section
variable {D:Dcf}{Φ:FuncId->List PV->Option (List PV)}{E:List PV}{ops:Array Oper}{St:Nat->SS}{M:Nat->Nat}{Fp:Nat->FP}{base:Nat}{L:Nat->Prop}{X0:Cx}
def KF (hΦ:∀g ps rs,Φ g ps=some rs->jo D g ps rs)(hL:D.loud=true->L base)(ht:DT D Φ E ops St M Fp)(hT:DTs ops St Fp)(he:jH ops=true){Q:Exit->Act->World->Prop}
  (hQ:∀listed a X,(∀j,j<ops.size->Lst listed j)->DI E ops St Fp base L X0 listed a X->Q .normal a X.w):
  ∀(fuel:Nat) (listed:Array Bool) (U:List Nat) (a:Act) (X:Cx),(∀j,j<ops.size->¬Lst listed j->j∈U)->U.length<=fuel->DI E ops St Fp base L X0 listed a X->wpAny D.P .any ops Q fuel listed a X.w
 |0,listed,U,a,X,hU,hl,hI=>by
  have hnil:U=[]:=bS (by omega);subst hnil;have hall:=λj hj=>Classical.byContradiction λh=>by have:=hU j hj h;cases this
  refine⟨?_,hQ listed a X hall hI⟩;apply j4.2;intro j hj;have:=lz hj;exact this.new (hall j this.lt)
 |fuel+1,listed,U,a,X,hU,hl,hI=>by
  have hsz:=hI.size;refine⟨λhn=>hQ listed a X (uu hsz he hn) hI,λi hi=>?_⟩;have hr:=lz hi;have hiU:=hU i hr.lt hr.new;refine wpOp_mono ?_ (YK hΦ hL ht hT hI hr);rintro a' w' ⟨X',rfl,hI'⟩;refine KF hΦ hL ht hT he hQ fuel _ (U.erase i) a' X' (λj hj hnl=>?_) (by rw[tH hiU];omega) hI';have hi':i<listed.size:=by have:=hr.lt;omega
  rw[dM hi'] at hnl;have hne:=λe=>hnl (.inl e);exact(lG hne).2 (hU j hj λh=>hnl (.inr h))
structure Ste (X0:Cx)(base:Nat)(L:Nat->Prop)(X:Cx):Prop where
 mr:MR X base L
 cn:Cn X
 sx:Sx X0 X
 fr:Frm base L X0.w X.w
 new:∀B,X.S B->X0.S B\/base<=B\/L B
def Ste.trans {X1 X2:Cx}(h:Ste X0 base L X1)(k:Ste X1 base L X2):Ste X0 base L X2:=⟨k.mr,k.cn,h.sx.trans k.sx,h.fr.trans k.fr,λB hB=>(k.new B hB).elim (h.new B) .inr⟩
def Ste.refl (hm:MR X0 base L)(hc:Cn X0):Ste X0 base L X0:=⟨hm,hc,.refl,.refl,λ_ h=> .inl h⟩
def Nx.ste {X:Cx}(h:Nx X0 base L X)(hc:Cn X0):Ste X0 base L X:=⟨h.mr,λb hb=>(h.nmb b hb).elim (λh1=>cd (hc b h1) h.nb) And.right,h.sx,h.fr,h.new⟩
def zm (hm:MR X0 base L)(hc:Cn X0){y:List PV}{N:Nat}:Ste X0 base L (X0.ex y N):=⟨Pc hm hc,hc,C8,.refl,λ_ h=> .inl h⟩
def ahn {X:Cx}(hm:MR X base L)(hc:Cn X){nb:Nat}(h:X.σ.nb<=nb):MR {X with σ:={X.σ with nb:=nb}} base L:=
 ⟨hm.lt,hm.kd,λb hb _ hnm=>by have h1:=hc b hnm;have h2:nb<=b:=hb;omega,λb sb hl=>BR.step (FZ (σ:={X.σ with nb:=nb})) (hm.lt b sb hl) (λ_ _ _=>rfl) (hm.bl b sb hl),hm.own,hm.inj,hm.cur,hm.hb,hm.sz,hm.fc⟩
def Pd (hΦ:∀g ps rs,Φ g ps=some rs->jo D g ps rs)(hL:D.loud=true->L base)(hfol:D.P.follows .mixedOrders=true)(hm:MR X0 base L)(hc:Cn X0){a:Act}(hTm:uT X0 (St 0).tm a.tmps)(ha:a.defers=[])(hn:a.tmps.size=(St 0).n)(h0:X0.σ=St 0){y:List PV}(ht:DT D Φ (X0.e++y) ops St M Fp)(hT:DTs ops St Fp)(he:jH ops=true){Q:Exit->Act->World->Prop}{id:Nat}
  (hQ:∀a' X',X'.σ=St ops.size->X'.e=X0.e++y->Ste X0 base L X'->uT X' (St ops.size).tm a'.tmps->a'.defers=[]->a'.tmps.size=(St ops.size).n->Q .normal a' X'.w):wpAny D.P .any ops Q ops.size (Array.replicate ops.size false) a {X0.w with drawn:=X0.w.drawn+1}:=by
 have hex:=Pc hm hc (y:=y) (N:=X0.N);have hdr:=sI hex (w':={X0.w with drawn:=X0.w.drawn+1}) ⟨rfl,rfl,rfl,aB _,λ_ _ _=>rfl,eE _⟩
 have hnbs:X0.σ.nb<=(St ops.size).nb:=by rw[h0];exact ht.nb (b8 _) (aB _)
 let X1:Cx:={X0 with e:=X0.e++y,w:={X0.w with drawn:=X0.w.drawn+1},σ:={X0.σ with nb:=(St ops.size).nb}}
 have s1:Sx X0 X1:=C8.trans (hdr.sx.trans (FZ (σ:={X0.σ with nb:=(St ops.size).nb})))
 have hm1:MR X1 base L:=ahn hdr.mr hc hnbs;have hnone:∀j,¬Lst (Array.replicate ops.size false) j:=by
  intro j h;unfold Lst at h;rw[cy,tD] at h
  grind
 have up0:∀p:Nat->Prop,UpTo ops (Array.replicate ops.size false) p 0:=λp=>⟨b8 _,λj h=>by omega,λj _ _ _=>hnone j⟩;have hI:DI (X0.e++y) ops St Fp base L X0 (Array.replicate ops.size false) a X1:=by
  refine⟨by simp,λj o h=>absurd h (hnone j),ha,hn,rfl,hm1,rfl,by rw[<-h0],by rw[<-h0],λb hb=>cd (hc b hb) hnbs,λi hi _ b h1 _ hb=>?_,λb=>⟨0,up0 _,by rw[<-h0]⟩,λt=>⟨0,up0 _,λsv hl=>?_⟩,s1,⟨rfl,rfl,rfl,aB _,λ_ _ _=>rfl,λ_=>eE _⟩,λ_ h=> .inl h⟩
  .have h2:=hc b hb;have:=ht.nb (b8 i) (nz hi)
   grind
  .obtain⟨v,h1,h2⟩:=hTm t sv hl;exact⟨v,h1,h2.step s1⟩
 refine KF hΦ hL ht hT he ?_ ops.size _ (List.range ops.size) a X1 (λj hj _=>by simpa using hj) (by simp) hI
 intro listed a' X hall hX;have hbl:∀b,look (St ops.size).bl b=look X.σ.bl b:=λb=>by
  obtain⟨k,k1,k2⟩:=hX.bl b;rw[k2];exact(KE (val:=λj=>look (St j).bl b) k1 hall λj hj hp=>ht.bl b j hj hp).symm
 have hst:=qP hX.mr (σ':=St ops.size) hbl hX.nb.symm (by rw[(ht.n (aB _)).2,<-hX.sz];exact hX.mr.sz) (by rw[hX.e];exact ht.fc _ (aB _));have hs:=hst.ste hX.cn;refine hQ a' {X with σ:=St ops.size} rfl hX.e ⟨hs.mr,hs.cn,hX.sx.trans hs.sx,hX.fr.trans hs.fr,λB hB=>(hs.new B hB).elim (hX.new B) .inr⟩ (λt sv hl=>?_) hX.ds (by rw[hX.n,(ht.n (aB _)).1])
 obtain⟨k,k1,k2⟩:=hX.tm t;have e:=KE (val:=λj=>look (St j).tm t) k1 hall λj hj hp=>ht.tm t j hj hp;obtain⟨v,h1,h2⟩:=k2 sv (e.trans hl);exact⟨v,h1,h2.step hs.sx⟩
def afu {σ:SS}{op:Op}{m:Nat}{r:Ores}(h:pK D σ op m=some r):(r.cal=none->r.m=m+r.pre.length)/\∀g as l,r.cal=some (g,as,l)->∃fn,D.P.funcs[g]?=some fn/\ r.m=m+r.pre.length+D.nr g fn+l.length:=by
 unfold pK at h;split at h
 .grind
 .split at h
  .cases h
  .unfold Dcf.nr;split at h
   .rename_i hld
    (repeat' split at h)<;>first|(cases h;done)|skip
    grind
   .rename_i hld;split at h
    .split at h
     .rename_i fn hfn
      (repeat' split at h)<;>first|(cases h;done)|skip
      all_goals
       cases h;exact⟨λh=>(by cases h),λg as l h=>by cases h;exact⟨fn,hfn,by rw[hld];simp;omega⟩⟩
     .cases h
    .cases h
 .cases h
def KG (hΦ:∀g ps rs,Φ g ps=some rs->jo D g ps rs){σ:SS}{op:Op}{r:Ores}{e:List PV}{N:Nat}{J:List (List PV->Option (List PV))}{k:K}{rs:List PV}(hd:pK D σ op e.length=some r)(h:den Φ N (r.k k) J e=some rs):∃y,rd Φ (e++y) e.length r/\ den Φ N k J (e++y)=some rs/\(e++y).length=r.m:=by
 obtain⟨y,h1,h2,h3,h4⟩:=Vu h;obtain⟨h5,h6⟩:=afu hd;refine⟨y,h1,h2,?_⟩;rw[aD];cases hc:r.cal with
 |none=>rw[h5 hc,h3 hc]
 |some p=>
  obtain⟨g,as,l⟩:=p;obtain⟨xs,ys,g1,g2,g3⟩:=h4 g as l hc;obtain⟨fn',f3,_,_,f4,_⟩:=hΦ g xs ys g2
  grind
def rd.mono {e y:List PV}{m:Nat}{r:Ores}(h:rd Φ e m r):rd Φ (e++y) m r:=⟨h.1.mono,λg as l hc=>by
 obtain⟨xs,ys,h1,h2,h3,h4⟩:=h.2 g as l hc;exact⟨xs,ys,tj h1,h2,λi p hp=>by rw[aH (aC.1 (h3 i p hp)).1];exact h3 i p hp,h4.mono⟩⟩
def DStep.mono {e y:List PV}{σ σ':SS}{m:Nat}{o:Oper}{fp:FP}(h:DStep D Φ e ops σ m o fp σ'):DStep D Φ (e++y) ops σ m o fp σ':=by
 cases h with
 |skip hg hs=>exact .skip hg hs
 |op hg hd hdom ho hs=>exact .op hg hd hdom ho.mono hs
def Eg {e y:List PV}{fc:List (Nat×PV)}(h:∀p∈fc,e[p.1]?=some p.2):∀p∈fc,(e++y)[p.1]?=some p.2:=λp hp=>by
 have:=h p hp;rw[aH (aC.1 this).1];exact this
def Ba {i:Nat}{x y:List Hint->Option (K×List Hint)}{hs hs':List Hint}{k:K}{N:Nat}{J:List (List PV->Option (List PV))}{e rs:List PV}(h:both i x y hs=some (k,hs'))(hd:den Φ N k J e=some rs):
  ∃k1 h1 h2,((x h1=some (k1,h2)/\ e[i]?=some (.bool true))\/(y h1=some (k1,h2)/\ e[i]?=some (.bool false)))/\ den Φ N k1 J e=some rs:=by
 unfold both at h;split at h
 .rename_i k1 h1 e1;split at h
  .rename_i k2 h2 e2;cases h;simp[den] at hd;split at hd
   .rename_i hx;exact⟨_,_,_,.inl ⟨e1,hx⟩,hd⟩
   .rename_i hx;exact⟨_,_,_,.inr ⟨e2,hx⟩,hd⟩
   .cases hd
  .cases h
 .cases h
def bothA_den {i:A}{x y z:List Hint->Option (K×List Hint)}{hs hs':List Hint}{k:K}{N:Nat}{J:List (List PV->Option (List PV))}{e rs:List PV}(h:O1 i x y z hs=some (k,hs'))(hd:den Φ N k J e=some rs):
  (∃k1 k2 h1 h2 h3,x hs=some (k1,h1)/\ y h2=some (k2,h3)/\ den Φ N k1 J e=some rs/\ den Φ N k2 J e=some rs)\/(i.ev e=some (.bool false)/\∃k3 h1 h2,z h1=some (k3,h2)/\ den Φ N k3 J e=some rs):=by
 unfold O1 at h;split at h
 .rename_i k1 h1 e1;split at h
  .rename_i k2 h2 e2;split at h
   .rename_i k3 h3 e3;cases h;simp[den] at hd
    grind
   .cases h
  .cases h
 .cases h
def xD {i:Nat}{f:PV->Nat->List Hint->Option (K×List Hint)}{N:Nat}{J:List (List PV->Option (List PV))}{rs:List PV}:∀{cs:List Int} {hs hs':List Hint} {k:K} {e:List PV},yW i cs e.length f hs=some (k,hs')->den Φ N k J e=some rs->
  ∃p y k1 h1 h2,e[i]?=some p/\ f p (e++y).length h1=some (k1,h2)/\ den Φ N k1 J (e++y)=some rs
 |[],hs,hs',k,e,h,hd=>by cases h;cases hd
 |c::cs,hs,hs',k,e,h,hd=>by
  unfold yW at h;split at h
  .rename_i k1 h1 e1;split at h
   .rename_i k2 h2 e2;cases h;simp[den] at hd;split at hd
    .rename_i xs hx;obtain⟨v,w,g1,g2,rfl⟩:=DX hx;cases g2;have g1:=g1;split at hd
     .rename_i u hu;have hl:(e++[u]).length=e.length+1:=by simp
      have hget:A.ev (e++[u]) (.x e.length)=some u:=by simp[A.ev]
      rw[hget] at hd;split at hd
      .rename_i hb;cases hb;refine⟨v,[.bool true],k1,hs,h1,g1,?_,hd⟩;have:v= .i64 c:=by
        simp[RF.ev] at hu;split at hu
        .rename_i k a k' b hab;cases hab;unfold dC at hu;simp only at hu;split at hu
         .rename_i hk;simp at hu;rw[hu,hk]
         .cases hu
        .rename_i hab;cases hab
        .cases hu
       rw[this,hl];exact e1
      .rename_i hb;cases hb;obtain⟨p,y,k3,h3,h4,f1,f2,f3⟩:=xD (e:=e++[.bool false]) (by rw[hl];exact e2) hd;rw[aH (aC.1 g1).1] at f1;exact⟨p,.bool false::y,k3,h3,h4,f1,by rw[bg] at f2;exact f2,by rw[bg] at f3;exact f3⟩
      .cases hd
     .cases hd
    .cases hd
   .cases h
  .cases h
structure Tr (D:Dcf)(F:Fn)(Φ:FuncId->List PV->Option (List PV))(N:Nat)(J:List (List PV->Option (List PV)))(rs:List PV)(ops:Array Oper)(κ:List SF)(jc:Nat)(n i:Nat)(σ:SS)(fs:List FP)(e y:List PV)(St:Nat->SS)(M:Nat->Nat)(Fp:Nat->FP):Prop where
 same:SameF σ (St i)
 step:∀j o,i<=j->ops[j]?=some o->∃σ',DStep D Φ (e++y) ops (St j) (M j) o (Fp j) σ'/\ SameF σ' (St (j+1))
 fc:∀j,i<=j->j<=ops.size->∀p∈(St j).fc,(e++y)[p.1]?=some p.2
 ok:okF (Region.before ops) (fs++(List.range' i (ops.size-i)).map Fp)=true
 next:∃n' h1 h2 k,n'<n/\ sym D F n' (.pop .normal) (St ops.size) (e++y).length κ jc h1=some (k,h2)/\ den Φ N k J (e++y)=some rs
def wb (hΦ:∀g ps rs,Φ g ps=some rs->jo D g ps rs){F:Fn}{N:Nat}{J:List (List PV->Option (List PV))}{rs:List PV}{κ:List SF}{jc:Nat}:∀(n i:Nat) {rest:List Oper} {σ:SS} {fs:List FP} {e:List PV} {k:K} {hs hs':List Hint},
  sym D F n (.dops ops rest fs) σ e.length κ jc hs=some (k,hs')->den Φ N k J e=some rs->(∀p∈σ.fc,e[p.1]?=some p.2)->rest=ops.toList.drop i->i<=ops.size->∃y St M Fp,Tr D F Φ N J rs ops κ jc n i σ fs e y St M Fp
 |0,_,_,_,_,_,_,_,_,h,_,_,_,_=>by cases h
 |n+1,i,[],σ,fs,e,k,hs,hs',h,hd,hfc,hr,hi=>by
  have hsz:i=ops.size:=by
   have:=List.drop_eq_nil_iff.1 hr.symm;simp at this;omega
  subst hsz;unfold sym at h;simp only at h;split at h
  .rename_i hok;exact⟨[],λ_=>σ,λ_=>e.length,λ_=>⟨[],[]⟩,⟨⟨rfl,rfl,rfl,rfl,rfl⟩,λj o hj ho=>by have:=(bH.1 ho).1;omega,λj _ _=>by simpa using hfc,by simpa using hok,n,_,_,_,hG _,by simpa using h,by simpa using hd⟩⟩
  .cases h
 |n+1,i,o::os,σ,fs,e,k,hs,hs',h,hd,hfc,hr,hi=>by
  have hlt:i<ops.size:=by
   cases qh i ops.size with
   |inl h=>exact h
   |inr h=>rw[da (by simpa using h)] at hr;cases hr
  rw[cY (by simpa using hlt)] at hr
  injection hr with ho hr
  have ho:ops[i]?=some o:=by rw[ho];simp
  have cons:∀{σ':SS} {fp:FP} {y1:List PV} {m:Nat},DStep D Φ (e++y1) ops σ m o fp σ'->(∃y St M Fp,Tr D F Φ N J rs ops κ jc n (i+1) σ' (fs++[fp]) (e++y1) y St M Fp)->∃y St M Fp,Tr D F Φ N J rs ops κ jc (n+1) i σ fs e y St M Fp:=by
   rintro σ' fp y1 m hst ⟨y,St,M,Fp,t⟩;have ne:∀{α:Type} {x z:Nat->α} {j:Nat},i+1<=j->(if j=i then x j else z j)=z j:=λh=>ac (by omega)
   refine⟨y1++y,λj=>if j=i then σ else St j,λj=>if j=i then m else M j,λj=>if j=i then fp else Fp j,⟨by rw[ad rfl];exact⟨rfl,rfl,rfl,rfl,rfl⟩,λj o' hj ho'=>?_,λj hj hj'=>?_,?_,?_⟩⟩
   .rw[<-bg];by_cases ej:j=i
    .subst ej;rw[ho] at ho';cases ho';simp only[ad];rw[ac (by omega)];exact⟨σ',hst.mono,t.same⟩
    .simp only[ac ej];rw[ac (by omega)];exact t.step j o' (by omega) ho'
   .rw[<-bg];by_cases ej:j=i
    .simp only[ad ej];rw[bg];exact Eg hfc
    .simp only[ac ej];exact t.fc j (by omega) hj'
   .have:=t.ok;rw[show ops.size-i=(ops.size-(i+1))+1 by omega,List.range'_succ,bY,ad rfl]
    rw[bg] at this;have hm:(List.range' (i+1) (ops.size-(i+1))).map (λj=>if j=i then fp else Fp j)=(List.range' (i+1) (ops.size-(i+1))).map Fp:=List.map_congr_left λj hj=>by
     rw[ac];have:=List.mem_range'_1.1 hj;omega
    rw[hm];exact this
   .obtain⟨n',h1,h2,k',q1,q2,q3⟩:=t.next;rw[<-bg];exact⟨n',h1,h2,k',by omega,by rw[ac (by omega)];exact q2,q3⟩
  unfold sym at h;simp only at h;split at h
  .cases h
  .rename_i x hg;obtain⟨k1,h1,h2,h3,hd1⟩:=Ba h hd;have fin:∀{b:Bool},sym D F n (.dops ops (o::os) fs) (mS σ x (.bool b)) e.length κ jc h1=some (k1,h2)->e[x]?=some (.bool b)->∃y St M Fp,Tr D F Φ N J rs ops κ jc (n+1) i σ fs e y St M Fp:=λh3 hx=>by
    obtain⟨y,St,M,Fp,t⟩:=wb hΦ n i h3 hd1 (λp hp=>by
     rcases bz.1 hp with rfl|hp
     .exact hx
     .exact hfc p hp) (by rw[cY (by simpa using hlt),<-hr];congr 1) hi
    obtain⟨n',a1,a2,a3,a4,a5⟩:=t.next;exact⟨y,St,M,Fp,⟨t.same.tm,t.same.bl,t.same.nb,t.same.n,t.same.sz⟩,t.step,t.fc,t.ok,n',a1,a2,a3,by omega,a5⟩
   rcases h3 with⟨h3,hx⟩|⟨h3,hx⟩
   .exact fin h3 hx
   .exact fin h3 hx
  .rename_i hg;split at h
   .rename_i σ' hs;obtain⟨h1,h2,h3,h4,h5,h6,_⟩:=nH hs;refine cons (y1:=[]) (m:=e.length) (.skip hg hs) ?_;rw[bc];exact wb hΦ n (i+1) h hd (by rw[h4];exact hfc) hr hlt
   .cases h
  .rename_i hg;split at h
   .rename_i x cs hsp;obtain⟨p,y1,k1,h1,h2,f1,f2,f3⟩:=xD h hd;obtain⟨y,St,M,Fp,t⟩:=wb hΦ n i f2 f3 (λq hq=>by
     rcases bz.1 hq with rfl|hq
     .rw[aH (aC.1 f1).1];exact f1
     .exact Eg hfc q hq) (by rw[cY (by simpa using hlt),<-hr];congr 1) hi
    obtain⟨n',a1,a2,a3,a4,a5,a6⟩:=t.next;refine⟨y1++y,St,M,Fp,⟨⟨t.same.tm,t.same.bl,t.same.nb,t.same.n,t.same.sz⟩,by rw[<-bg];exact t.step,by rw[<-bg];exact t.fc,t.ok,n',a1,a2,a3,by omega,by rw[<-bg];exact a5,by rw[<-bg];exact a6⟩⟩
   split at h
   .rename_i r hop;split at h
    .rename_i hdom;split at h
     .rename_i σ' hs;split at h
      .rename_i k' hs2 hk;cases h;obtain⟨y1,o1,o2,o3⟩:=KG hΦ hop hd;obtain⟨h1,h2,h3,h4,h5,h6,_⟩:=nH hs;refine cons (.op hg hop hdom o1 hs) ?_;rw[<-o3] at hk;exact wb hΦ n (i+1) hk o2 (by rw[h4];exact Eg hfc) hr hlt
      .cases h
     .cases h
    .cases h
   .cases h;simp[den] at hd
end
section
variable {P:Program}{ops:Array Oper}{Q:Exit->Act->World->Prop}
def Ak {o:Oper}{a:Act}{w:World}{K K':Act->World->Prop}{Q Q':Exit->Act->World->Prop}(h:∀a w,K a w->K' a w)(hq:∀ex a w,ex≠ .normal->Q ex a w->Q' ex a w)(hh:o.wp P a w K Q):o.wp P a w K' Q':=by
 unfold Oper.wp at*;generalize (execOp a.eval o).run P w=r at*;cases r with
 |ok n w'=>
  cases n<;>simp[Oper.upon] at hh|- <;>
   first
    |exact h _ _ hh
    |exact Calls.mono hh (λe w'' he=>by
     cases e<;>first|exact h _ _ he|exact hq _ _ _ (by simp) he|(obtain⟨a,w,he⟩:=he;exact⟨a,w,hq _ _ _ (by simp) he⟩))
    |exact Rows.mono hh (λ_ _ he=>h _ _ he)
 |halt x w'=>cases x<;>simp[Oper.upon] at hh|- <;>first|exact hq _ _ _ (by simp) hh|exact hh
def uv {Q Q':Exit->Act->World->Prop}(hq:∀ex a w,ex≠ .normal->Q ex a w->Q' ex a w)(h:LetsOut Q):LetsOut Q':=by
 obtain⟨a,w,h⟩:=h;exact⟨a,w,hq _ _ _ (by simp) h⟩
def lA (h:ow ops=false){o:Oper}{i:Nat}(ho:ops[i]?=some o):o.guard=none:=by
 unfold ow at h;rw[dZ] at h;have:=h o (by rw[aK];exact⟨i,by simpa using ho⟩)
 simp_all
def gy {o:Oper}{ys:Nat->Option Bool}(h:o.guard=none):Region.wanted o ys=true:=by
 unfold Region.wanted;rw[h]
def oZ {k:Nat}(h:CJ ops k=true){i j:Nat}(hk:k<=i)(hi:i<ops.size)(hj:j<i):bfr (Region.before ops) j i=true:=by
 have:=aV.1 h i (by simpa using hi)
 simp only[gC] at this;rcases this with h|h
 .have h:=h;have:=cg h;omega
 .grind
def Eh (he:jH ops=true)(hg:ow ops=false){k f:Nat}(hfk:f<k\/ops.size<=f)(hl:∀{x i:Nat},k<=x->x<ops.size->i<x->i≠f->bfr (Region.before ops) i x=true):∀(r i fuel:Nat) (listed:Array Bool) (a:Act) (w:World),i+r=ops.size->k<=i->r<=fuel->listed.size=ops.size->rK ops (Lst listed)->(∀j,Lst listed j↔j<i)->
  wpList P ops Q (ops.toList.drop i) a w->wpAny P .any ops Q fuel listed a w
 |0,i,fuel,listed,a,w,hi,hk,_,hs,hd,hL,h=>by
  rw[da (by simp;omega)] at h;have hno:∀x∈Region.ready .any ops listed,False:=λx hx=>by
   have hr:=lz hx;exact hr.new ((hL x).2 (by have:=hr.lt;omega))
  cases fuel with
  |zero=>exact⟨j4.2 λx hx=>hno x hx,h⟩
  |succ f=>exact⟨λ_=>h,λx hx=>(hno x hx).elim⟩
 |r+1,i,fuel,listed,a,w,hi,hk,hf,hs,hd,hL,h=>by
  obtain⟨f,rfl⟩:∃f,fuel=f+1:=⟨fuel-1,by omega⟩;have hio:ops[i]?=some (ops[i]'(by omega)):=by simp
  rw[cY (by simp;omega)] at h;unfold wpList at h;rw[gy (lA hg (i:=i) (by simp)),ad rfl] at h;refine⟨λhn=>?_,λx hx=>?_⟩
  .have:=uu hs he hn i (by omega);rw[hL] at this;omega
  .have hr:=lz hx;have hxi:x=i:=by
    by_cases e:x=i
    .exact e
    .exfalso;have hxl:=hr.lt;have hge:i<x:=by
      have:¬x<i:=λhlt=>hr.new ((hL x).2 hlt);omega
     have:=(ordered hd hr hs (j:=i) (by omega) (by rw[gh (by omega),iJ (by omega)];exact hl (by omega) hxl hge (by omega))).1 hge;rw[hL] at this;omega
   subst hxi;unfold wpOp;rw[hio];simp only;rw[gy (lA hg (i:=x) hio),ad rfl];have hx':x<listed.size:=by omega
   have next:=λa w h=>Eh he hg hfk hl r (x+1) f _ a w (by omega) (by omega) (by omega) (by simpa using hs) (kW hd hr hs) (λj=>by rw[dM hx',hL];omega) h
   simp at h;exact h.imp (Oper.wp_mono next) id
def qy {k i:Nat}(hi:i<k)(hk:k<=ops.size):(ops.extract 0 k)[i]?=ops[i]?:=by
 grind
def KI (he:jH ops=true)(hg:ow ops=false){k f:Nat}(hfk:f<k\/ops.size<=f)(hk:k<=ops.size)(hl:∀{x i:Nat},k<=x->x<ops.size->i<x->i≠f->bfr (Region.before ops) i x=true)(he':jH (ops.extract 0 k)=true):∀(n:Nat) (l' l:Array Bool) (a:Act) (w:World),l'.size=k->l.size=ops.size->(∀j,Lst l j↔Lst l' j)->rK ops (Lst l)->(f<k->Lst l' f)->
  wpAny P .any (ops.extract 0 k) (Exit.then (wpList P ops Q (ops.toList.drop k)) Q) n l' a w->wpAny P .any ops Q (n+(ops.size-k)) l a w:=by
 have hes:(ops.extract 0 k).size=k:=by simp;omega
 have hq:∀(ex:Exit) (a:Act) (w:World),ex≠ .normal->Exit.then (wpList P ops Q (ops.toList.drop k)) Q ex a w->Q ex a w:=λex a w h1 h2=>by
  cases ex<;>first|exact h2|exact absurd rfl h1
 have lt_of:∀{l:Array Bool} {j:Nat},Lst l j->j<l.size:=λ{l j} h=>by
  unfold Lst at h
  grind
 have done:∀(fuel:Nat) (l' l:Array Bool) (a:Act) (w:World),ops.size-k<=fuel->l'.size=k->l.size=ops.size->(∀j,Lst l j↔Lst l' j)->rK ops (Lst l)->Region.ready .any (ops.extract 0 k) l'=[]->wpList P ops Q (ops.toList.drop k) a w->wpAny P .any ops Q fuel l a w:=λfuel l' l a w hf hs' hs hL hd hn h=>by
  have hall:=uu (by rw[hes];exact hs') he' hn;exact Eh he hg hfk hl (ops.size-k) k fuel l a w (by omega) (aB _) hf hs hd (λj=>⟨λh=>by rw[hL] at h;have:=lt_of h;omega,λh=>(hL j).2 (hall j (by omega))⟩) h
 intro n;induction n with
 |zero=>
  intro l' l a w hs' hs hL hd hF h;exact done _ l' l a w (by omega) hs' hs hL hd h.1 h.2
 |succ n ih=>
  intro l' l a w hs' hs hL hd hF h;obtain⟨h0,h1⟩:=h;by_cases hn:Region.ready .any (ops.extract 0 k) l'=[]
  .exact done _ l' l a w (by omega) hs' hs hL hd hn (h0 hn)
  .rw[show n+1+(ops.size-k)=(n+(ops.size-k))+1 by omega]
   obtain⟨y,hy⟩:=sB _ hn;have hry:=lz hy;have hyk:y<k:=by have:=hry.lt;omega
   refine⟨λhn'=>?_,λx hx=>?_⟩
   .have:=uu hs he hn' y (by omega);exact absurd ((hL y).1 this) hry.new
   .have hr:=lz hx;have hxl:=hr.lt;have hxk:x<k:=by
     by_cases e:x<k
     .exact e
     .exfalso;have:=(ordered hd hr hs (j:=y) (by omega) (by rw[gh (by omega),iJ (by omega)];exact hl (by omega) hxl (by omega) (λe=>hry.new (e▸hF (by omega))))).1 (by omega);exact hry.new ((hL y).1 this)
    have hx':x∈Region.ready .any (ops.extract 0 k) l':=by
     unfold Region.ready at hx|-;simp only[bF,dc,aJ,aE] at hx|-;obtain⟨_,q2,q3⟩:=hx;have gd:∀j,j<k->l'.getD j true=l.getD j true:=λj hj=>by
      have hb:=hL j;unfold Lst at hb;rw[cy,cy,dx (show j<l.size by omega),dx (show j<l'.size by omega)] at hb
      rw[cy,cy,dx (show j<l.size by omega),dx (show j<l'.size by omega)]
      simp only[cC] at hb|-;rw[eC];exact hb.symm
     refine⟨by omega,by rw[gd x hxk];exact q2,?_⟩;rw[qy hxk hk];have ho:ops[x]?=some ops[x]:=by simp
     rw[ho] at q3|-;simp only[cD,cC,iu] at q3|-;intro e hee;have:=q3 e hee;simp only[gC] at this|-;rcases this with h|h
     .exact .inl h
     .exact .inr ((hL e.on).1 h)
    have hw:=h1 x hx';unfold wpOp at hw|-;rw[qy hxk hk] at hw;have ho:ops[x]?=some ops[x]:=by simp
    rw[ho] at hw|-;simp only at hw|-;have hgx:=lA hg (i:=x) ho;rw[gy hgx,ad rfl] at hw|-;have next:∀a w,wpAny P .any (ops.extract 0 k) (Exit.then (wpList P ops Q (ops.toList.drop k)) Q) n (l'.setIfInBounds x true) a w->wpAny P .any ops Q (n+(ops.size-k)) (l.setIfInBounds x true) a w:=λa w h=>
     ih _ _ a w (by simpa using hs') (by simpa using hs) (λj=>by rw[dM (by omega),dM (by omega),hL]) (kW hd hr hs) (λhf=>(dM (by omega) _).2 (.inr (hF hf))) h
    exact hw.imp (Ak next hq) λ⟨q1,q2⟩=>⟨q1,uv hq q2⟩
def Vw {o:Oper}{a:Act}{w:World}{K K':Act->World->Prop}(hq:FU o.op=true)(h:o.wp P a w K Q)(h':o.wp P a w K' Q):o.wp P a w (λa w=>K a w/\ K' a w) Q:=by
 have hn:(∀f as w',(execOp a.eval o).run P w≠ .ok (.enter f as) w')/\∀r as w',(execOp a.eval o).run P w≠ .ok (.row r as) w':=by
  obtain⟨d,op,t,pos,af,g⟩:=o;have lv:∀(s:Sem Value) (n:Next) (w':World),(do pure (Next.value (<-s)):Sem Next).run P w= .ok n w'->∃v,n= .value v:=λs n w' e=>by
   rw[Sem.run_bind] at e;cases hs:s.run P w with
   |ok v w1=>rw[hs] at e;simp at e;exact⟨v,e.1.symm⟩
   |halt h w1=>rw[hs] at e;simp at e
  cases op<;>first|cases hq|skip
  .exact⟨λf as w' e=>by simp[execOp] at e,λf as w' e=>by simp[execOp] at e⟩
  .exact⟨λf as w' e=>by simp[execOp] at e,λf as w' e=>by simp[execOp] at e⟩
  .exact⟨λf as w' e=>(by obtain⟨v,e⟩:=lv _ _ _ e;cases e),λf as w' e=>(by obtain⟨v,e⟩:=lv _ _ _ e;cases e)⟩
 unfold Oper.wp at*;generalize (execOp a.eval o).run P w=r at*;cases r with
 |ok n w'=>
  cases n<;>simp[Oper.upon] at h h'|- <;>first|exact⟨h,h'⟩|exact absurd rfl (hn.1 _ _ _)|exact absurd rfl (hn.2 _ _ _)
 |halt x w'=>cases x<;>simp[Oper.upon] at h h'|- <;>exact h
def YL {D:Dcf}{σ:SS}{k j f:Nat}(h:U4 D σ ops k=some (j,f)):k=j+1/\ f<j/\ j<ops.size/\(∃o,ops[f]?=some o/\∀e∈o.after,Region.binds .any e=false)/\∀i,i<j->i≠f->bfr (Region.before ops) i j=true/\∃o,ops[i]?=some o/\ FU o.op=true:=by
 unfold U4 at h;split at h
 .cases h
 .rename_i j';split at h
  .rename_i o ho;split at h
   .split at h
    .rename_i f' hf;cases h;have h1:=j6 hf;have h2:=ed hf;rw[dc] at h2;unfold Xs at h1;rw[aJ] at h1;obtain⟨h1,h3⟩:=h1;refine⟨rfl,h2,?_,?_,λi hi hne=>?_⟩
     .exact(bH.1 ho).1
     .split at h1
      .rename_i o' ho';exact⟨o',ho',λe he=>by simpa using(iu.1 h1) e he⟩
      .cases h1
     .have:=aV.1 h3 i (by simpa using hi)
      rw[gC,aJ] at this;rcases this with h|⟨h,h'⟩
      .exact absurd (bm h) hne
      .refine⟨h,?_⟩;split at h'
       .rename_i o' ho';exact⟨o',ho',h'⟩
       .cases h'
    .cases h
   .cases h
  .cases h
def oz {listed:Array Bool}{i:Nat}(hs:listed.size=ops.size)(hr:Ready ops listed i):i∈Region.ready .any ops listed:=by
 unfold Region.ready;simp only[bF,dc,aJ];have hi:=hr.lt;refine⟨hi,?_,?_⟩
 .have hl:=hr.new;unfold Lst at hl
  grind
 .have ho:ops[i]?=some ops[i]:=by simp
  rw[ho];simp only[cD,cC,iu];intro e hee;cases hb:Region.binds .any e with
  |false=>simp
  |true=>simpa [Lst] using hr.deps _ ho e hee hb
def S7 (he:jH ops=true)(hg:ow ops=false){j f:Nat}{o:Oper}(hf:f<j)(hj:j<ops.size)(hof:ops[f]?=some o)(hfe:∀e∈o.after,Region.binds .any e=false)(hp:∀i,i<j->i≠f->bfr (Region.before ops) i j=true/\∃o,ops[i]?=some o/\ FU o.op=true)
  (hl:CJ ops (j+1)=true) (he1:jH (ops.extract 0 j)=true) (he2:jH (ly ops j f)=true):∀(n:Nat) (l1 l2 l:Array Bool) (a:Act) (w:World),l1.size=j->l2.size=j->l.size=ops.size->(∀i,Lst l i↔Lst l1 i)->(∀i,Lst l2 i↔i=f\/Lst l i)->¬Lst l f->rK ops (Lst l)->
  wpAny P .any (ops.extract 0 j) (Exit.then (wpList P ops Q (ops.toList.drop j)) Q) (n+1) l1 a w->wpAny P .any (ly ops j f) (Exit.then (wpList P ops Q (CM ops j f)) Q) n l2 a w->wpAny P .any ops Q (n+1+(ops.size-j)) l a w:=by
 have hes:(ops.extract 0 j).size=j:=by simp;omega
 have hes2:(ly ops j f).size=j:=by unfold ly;simp;omega
 have hfl:f<ops.size:=by omega
 have hq:∀(l:List Oper) (ex:Exit) (a:Act) (w:World),ex≠ .normal->Exit.then (wpList P ops Q l) Q ex a w->Q ex a w:=λl ex a w h1 h2=>by
  cases ex<;>first|exact h2|exact absurd rfl h1
 have hl1:∀{x i:Nat},j<=x->x<ops.size->i<x->i≠f->bfr (Region.before ops) i x=true:=λ{x i} h1 h2 h3 h4=>by
  by_cases e:x=j
  .grind
  .exact oZ hl (by omega) h2 h3
 have lt_of:∀{l:Array Bool} {j:Nat},Lst l j->j<l.size:=λ{l j} h=>by
  unfold Lst at h
  grind
 have step:∀(n:Nat) (l1 l2 l:Array Bool) (a:Act) (w:World),l1.size=j->l2.size=j->l.size=ops.size->(∀i,Lst l i↔Lst l1 i)->(∀i,Lst l2 i↔i=f\/Lst l i)->¬Lst l f->rK ops (Lst l)->
   wpAny P .any (ops.extract 0 j) (Exit.then (wpList P ops Q (ops.toList.drop j)) Q) (n+1) l1 a w->wpAny P .any (ly ops j f) (Exit.then (wpList P ops Q (CM ops j f)) Q) n l2 a w->
   (∀x,x<j->x≠f->Ready ops l x->wpOp P ops Q x (wpAny P .any ops Q (n+(ops.size-j)) (l.setIfInBounds x true)) a w)->wpAny P .any ops Q (n+1+(ops.size-j)) l a w:=by
  intro n l1 l2 l a w hs1 hs2 hs hL hL2 hnf hd h1 h2 hx3;rw[show n+1+(ops.size-j)=(n+(ops.size-j))+1 by omega]
  have nodep:∀{S:Nat->Prop},∀o',ops[f]?=some o'->∀e∈o'.after,Region.binds .any e=true->S e.on:=λo' ho' e he hb=>by
   rw[hof] at ho';cases ho';rw[hfe e he] at hb;cases hb
  have hrf:Ready ops l f:=⟨hfl,hnf,nodep⟩;refine⟨λhn=>?_,λx hx=>?_⟩
  .have:=oz hs hrf;rw[hn] at this;cases this
  .have hr:=lz hx;have hxl:=hr.lt;by_cases e:x=f
   .subst e;have hin:x∈Region.ready .any (ops.extract 0 j) l1:=oz (by omega) ⟨by omega,λh=>hnf ((hL x).2 h),λo' ho'=>by
     rw[qy hf (by omega)] at ho';exact nodep o' ho'⟩
    have hw:=h1.2 x hin;unfold wpOp at hw|-;rw[qy hf (by omega),hof] at hw;rw[hof];simp only at hw|-;rw[gy (lA hg hof),ad rfl] at hw|-;have next:∀a w,wpAny P .any (ops.extract 0 j) (Exit.then (wpList P ops Q (ops.toList.drop j)) Q) n (l1.setIfInBounds x true) a w->wpAny P .any ops Q (n+(ops.size-j)) (l.setIfInBounds x true) a w:=λa w h=>
     KI he hg (.inl hf) (by omega) hl1 he1 n _ _ a w (by simpa using hs1) (by simpa using hs) (λi=>by rw[dM (by omega),dM (by omega),hL]) (kW hd hr hs) (λ_=>(dM (by omega) _).2 (.inl rfl)) h
    exact hw.imp (Ak next (hq _)) λ⟨q1,q2⟩=>⟨q1,uv (hq _) q2⟩
   .by_cases hxj:x<j
    .exact hx3 x hxj e hr
    .by_cases hxe:x=j
     .subst hxe;have hall:∀y,y<x->y≠f->Lst l y:=λy hy hne=>(ordered hd hr hs (j:=y) (by omega) (by rw[gh (by omega),iJ (by omega)];exact(hp y hy hne).1)).1 hy;have hn2:Region.ready .any (ly ops x f) l2=[]:=j4.2 λy hy=>by
       have hry:=lz hy;have:=hry.lt;refine hry.new ((hL2 y).2 ?_);by_cases e:y=f
       .exact .inl e
       .exact .inr (hall y (by omega) e)
      have h3:wpList P ops Q (CM ops x f) a w:=by
       cases n with
       |zero=>exact h2.2
       |succ n=>exact h2.1 hn2
      have hoj:ops[x]?=some ops[x]:=by simp
      unfold CM at h3;rw[bU,bU,hoj,hof] at h3;simp only[Option.toList_some,List.singleton_append] at h3;unfold wpList at h3;rw[gy (lA hg hoj),ad rfl] at h3;unfold wpOp;rw[hoj];simp only;rw[gy (lA hg hoj),ad rfl];refine h3.imp (Oper.wp_mono λa w h3=>?_) id;rw[show n+(ops.size-x)=(n+(ops.size-(x+1)))+1 by omega]
      have hs':(l.setIfInBounds x true).size=ops.size:=by simpa using hs
      have hd':=kW hd hr hs;refine⟨λhn=>?_,λy hy=>?_⟩
      .have:=oz hs' (i:=f) ⟨hfl,λh=>by rw[dM (by omega)] at h;exact h.elim (by omega) hnf,nodep⟩;rw[hn] at this;cases this
      .have hry:=lz hy;have hyl:=hry.lt;have hyf:y=f:=by
        by_cases e:y=f
        .exact e
        .exfalso;by_cases hyx:y<x
         .exact hry.new ((dM (by omega) _).2 (.inr (hall y hyx e)))
         .by_cases hyx':y=x
          .exact hry.new ((dM (by omega) _).2 (.inl hyx'))
          .have:=(ordered hd' hry hs' (j:=f) (by omega) (by rw[gh (by omega),iJ (by omega)];exact oZ hl (by omega) hyl (by omega))).1 (by omega);rw[dM (by omega)] at this;exact this.elim (by omega) hnf
       subst hyf;unfold wpList at h3;rw[gy (lA hg hof),ad rfl] at h3;unfold wpOp;rw[hof];simp only;rw[gy (lA hg hof),ad rfl];refine h3.imp (Oper.wp_mono λa w h3=>?_) id;refine Eh he hg (k:=x+1) (f:=ops.size) (.inr (aB _)) (λh1 h2 h3 _=>oZ hl h1 h2 h3) (ops.size-(x+1)) (x+1) _ _ a w (by omega) (aB _) (by omega) (by simpa using hs) (kW hd' hry hs') (λi=>?_) h3
       rw[dM (by simp;omega),dM (by omega)];constructor
       .rintro(h|h|h)
        .omega
        .omega
        .by_cases hi:i<x+1
         .exact hi
         .exfalso;have:=lt_of h;have:=uU hd i y h (oZ hl (by omega) (by omega) (by omega));exact hnf this
       .intro hi;by_cases e:i=y
        .exact .inl e
        .by_cases e':i=x
         .exact .inr (.inl e')
         .exact .inr (.inr (hall i (by omega) e))
     .exfalso;have:=(ordered hd hr hs (j:=f) (by omega) (by rw[gh (by omega),iJ (by omega)];exact oZ hl (by omega) hxl (by omega))).1 (by omega);exact hnf this
 have pg:∀{i:Nat},i<j->i≠f->(ly ops j f)[i]?=ops[i]?:=λ{i} hi hne=>by
  unfold ly;rw[pb (by omega),qy hi (by omega)]
 have rdy:∀{l l':Array Bool} {os:Array Oper} {x:Nat},os.size=j->os[x]?=ops[x]?->x<j->Ready ops l x->¬Lst l' x->(∀i,Lst l i->Lst l' i)->Ready os l' x:=λ{l l' os x} h1 h2 h3 h4 h5 h6=>
  ⟨by omega,h5,λo ho e he hb=>h6 _ (h4.deps o (by rw[<-h2];exact ho) e he hb)⟩
 intro n;induction n with
 |zero=>
  intro l1 l2 l a w hs1 hs2 hs hL hL2 hnf hd h1 h2;refine step 0 l1 l2 l a w hs1 hs2 hs hL hL2 hnf hd h1 h2 λx hx hne hr=>?_;exfalso;have:=oz (by omega) (rdy hes2 (pg hx hne) hx hr (λh=>((hL2 x).1 h).elim hne hr.new) λi h=>(hL2 i).2 (.inr h));rw[h2.1] at this;cases this
 |succ n ih=>
  intro l1 l2 l a w hs1 hs2 hs hL hL2 hnf hd h1 h2;refine step (n+1) l1 l2 l a w hs1 hs2 hs hL hL2 hnf hd h1 h2 λx hx hne hr=>?_;have i1:=oz (by omega) (rdy hes (qy hx (by omega)) hx hr (λh=>hr.new ((hL x).2 h)) λi h=>(hL i).1 h);have i2:=oz (by omega) (rdy hes2 (pg hx hne) hx hr (λh=>((hL2 x).1 h).elim hne hr.new) λi h=>(hL2 i).2 (.inr h));have w1:=h1.2 x i1;have w2:=h2.2 x i2;obtain⟨_,ox,hox,hqx⟩:=hp x hx hne;unfold wpOp at w1 w2|-;rw[qy hx (by omega),hox] at w1;rw[pg hx hne,hox] at w2;rw[hox];simp only at w1 w2|-;rw[gy (lA hg hox),ad rfl] at w1 w2|-;rcases w1 with w1|⟨q1,q2⟩
  .rcases w2 with w2|⟨q1,q2⟩
   .refine .inl (Oper.wp_mono (λa w h=>?_) (Vw hqx (Ak (λ_ _ h=>h) (hq _) w1) (Ak (λ_ _ h=>h) (hq _) w2)));exact ih _ _ _ a w (by simpa using hs1) (by simpa using hs2) (by simpa using hs) (λi=>by rw[dM (by omega),dM (by omega),hL]) (λi=>by rw[dM (by omega),dM (by omega),hL2];exact or_left_comm) (λh=>by rw[dM (by omega)] at h;exact h.elim (λe=>hne e.symm) hnf) (kW hd hr hs) h.1 h.2
   .exact .inr ⟨q1,uv (hq _) q2⟩
  .exact .inr ⟨q1,uv (hq _) q2⟩
def YM {j f n:Nat}{l:Array Bool}{a:Act}{w:World}(hf:f<j)(hj:j<=ops.size)(hs:l.size=j)(hnf:¬Lst l f){Q:Exit->Act->World->Prop}(h:wpAny P .any (ly ops j f) Q (n+1) l a w):wpAny P .any (ly ops j f) Q n (l.setIfInBounds f true) a w:=by
 have hes:(ops.extract 0 j).size=j:=by simp;omega
 have ho:(ly ops j f)[f]?=some nop:=by
  unfold ly
  grind
 have hr:Ready (ly ops j f) l f:=⟨(bH.1 ho).1,hnf,λo' ho' e he=>by
  rw[ho] at ho';cases ho';unfold nop at he;simp at he⟩
 have hw:=h.2 f (oz (by rw[hs];unfold ly;simp;omega) hr);unfold wpOp at hw;rw[ho] at hw;simp only at hw;rw[gy rfl,ad rfl] at hw;rcases hw with hw|⟨hw,_⟩
 .exact hw
 .exfalso;have:=hw.1;have h2:((execOp a.eval nop).runT P w #[]).2=#[]:=rfl
  grind
def YN {D:Dcf}{σ:SS}{k:Nat}(h:U3 D σ ops=some k):k<=ops.size/\ CJ ops k=true:=by
 unfold U3 at h
 grind
end
def xE:AExit->Exit
 | .normal=> .normal
 | .exit id=> .exit id
 | .ret=> .ret
section
variable {D:Dcf}{F:Fn}{Φ:FuncId->List PV->Option (List PV)}{N:Nat}{rs:List PV}{base:Nat}{L:Nat->Prop}{Xb:Cx}{nt:Nat}
structure Iv (base:Nat)(L:Nat->Prop)(Xb:Cx)(nt:Nat)(X:Cx)(a:Act)(σ:SS)(m:Nat):Prop where
 hσ:X.σ=σ
 len:X.e.length=m
 tm:uT X σ.tm a.tmps
 ds:a.defers=[]
 n:a.tmps.size=nt
 n':σ.n=nt
 st:Ste Xb base L X
abbrev Js:=List (List PV->Option (List PV))
structure Kont (D:Dcf)(F:Fn)(Φ:FuncId->List PV->Option (List PV))(N:Nat)(rs:List PV)(base:Nat)(L:Nat->Prop)(Xb:Cx)(nt:Nat)(n:Nat)(κ:List SF)(J:Js)(e0:List PV)(Q:Exit->Act->World->Prop):Prop where
 lo:∀b,Xb.nm b->b<loK F.lo κ
 e:∃y,e0=Xb.e++y
 pop:∀n',n'<=n->∀ex σ m hs k hs' X a J',sym D F n' (.pop ex) σ m κ (J++J').length hs=some (k,hs')->den Φ N k (J++J') X.e=some rs->(∃y,X.e=e0++y)->Iv base L Xb nt X a σ m->Q (xE ex) a X.w
variable {n:Nat}{κ:List SF}{J:Js}{e0:List PV}{Q:Exit->Act->World->Prop}
def Kont.le (h:Kont D F Φ N rs base L Xb nt n κ J e0 Q){n':Nat}(hn:n'<=n):Kont D F Φ N rs base L Xb nt n' κ J e0 Q:=⟨h.lo,h.e,λi hi=>h.pop i (bG hi hn)⟩
def Kont.app (h:Kont D F Φ N rs base L Xb nt n κ J e0 Q){J':Js}:Kont D F Φ N rs base L Xb nt n κ (J++J') e0 Q:=⟨h.lo,h.e,λi hi ex σ m hs k hs' X a J'' h1 h2=>by
 rw[bg] at h1 h2;exact h.pop i hi ex σ m hs k hs' X a _ h1 h2⟩
def Kont.ext (h:Kont D F Φ N rs base L Xb nt n κ J e0 Q){e:List PV}(he:∃y,e=e0++y):Kont D F Φ N rs base L Xb nt n κ J e Q:=by
 obtain⟨y,rfl⟩:=he;exact⟨h.lo,let⟨y',hy⟩:=h.e;⟨y'++y,by rw[hy,bg]⟩,λi hi ex σ m hs k hs' X a J' h1 h2 ⟨y',h3⟩=>h.pop i hi ex σ m hs k hs' X a J' h1 h2 ⟨y++y',by rw[h3,bg]⟩⟩
def Kont.map (h:Kont D F Φ N rs base L Xb nt n κ J e0 Q){Q':Exit->Act->World->Prop}(k:∀ex a w,Q (xE ex) a w->Q' (xE ex) a w):Kont D F Φ N rs base L Xb nt n κ J e0 Q':=⟨h.lo,h.e,λi hi ex σ m hs k' hs' X a J' h1 h2 h3 h4=>k _ _ _ (h.pop i hi ex σ m hs k' hs' X a J' h1 h2 h3 h4)⟩
def Kont.jump (h:Kont D F Φ N rs base L Xb nt n κ J e0 Q){T:Tm}{σ0:SS}{f:List PV->Option (List PV)}{m:Nat}(hm:e0.length=m)(hn:σ0.n=nt)(hsz:jC e0 σ0.sz)(hfc:∀p∈σ0.fc,e0[p.1]?=some p.2){Q':Exit->Act->World->Prop}
  (hf:∀ps X a,f ps=some rs->X.e=e0++ps->Iv base L Xb nt X a (T.st σ0) (m+T.p)->Q' .normal a X.w) (hQ:∀ex a w,ex≠ .normal->Q (xE ex) a w->Q' (xE ex) a w):Kont D F Φ N rs base L Xb nt n (.J J.length m T::κ) (J++[f]) e0 Q':=by
 refine⟨h.lo,h.e,λi hi ex σ m' hs k hs' X a J' h1 h2 ⟨y,hy⟩ hI=>?_⟩;cases i with
 |zero=>cases h1
 |succ i=>
  have ab:∀{ex},ex≠AExit.normal->sym D F i (.pop ex) σ m' κ (J++[f]++J').length hs=some (k,hs')->Q' (xE ex) a X.w:=λhne h1=>hQ _ _ _ hne (by
   rw[bg] at h1 h2;exact h.pop i (by omega) _ σ m' hs k hs' X a _ h1 h2 ⟨y,hy⟩ hI)
  unfold sym at h1;simp only at h1;split at h1
  .split at h1
   .rename_i k' hj;cases h1;unfold O2 at hj;split at hj
    .rename_i vs l z hmt;cases hj;obtain⟨vals,v1,v2,v3⟩:=mZ h2;simp only[den] at v3;rw[show(J++[f]++J')[J.length]?=some f by simp] at v3
     simp only at v3;split at v3
     .rename_i ps hps;have hσ:=hI.hσ;have h3:=Pc hI.st.mr hI.st.cn (y:=vals) (N:=0);have hT:uT (X.ex vals 0) X.σ.tm a.tmps:=by
       rw[hσ];exactλt sv ht=>let⟨v,q1,q2⟩:=hI.tm t sv ht;⟨v,q1,q2.step C8⟩
      have hmt':yV m (loK F.lo κ) T (X.ex vals 0).σ m' σ.sz=some (vs,l,z):=by show yV m (loK F.lo κ) T X.σ m' σ.sz=_;rw[hσ];exact hmt
      obtain⟨_,q⟩:=S4 h3 hT (T:=T) (lo:=loK F.lo κ) (e0:=e0) (ex:=y++vals) (by show X.e++vals=_;rw[hy,bg]) hm hsz hfc m' σ.sz _ _ _ hmt' (by rw[<-hI.len];exact v2) (by rw[<-hσ];exact h3.sz)
      have hev:∀{as:List A} {ps:List PV} {e:List PV},evs e as=some ps->∀v∈as,∃p,v.ev e=some p:=by
       intro as;induction as with
       |nil=>intro ps e _ v hv;cases hv
       |cons a as ih=>
        intro ps e h v hv;simp only[evs] at h;split at h
        .rename_i p hp;split at h
         .rename_i ws hw;rcases bz.1 hv with rfl|hv
          .exact⟨p,hp⟩
          .exact ih hw v hv
         .cases h
        .cases h
      obtain⟨ps',X',w1,w2,w3,w4,w5,w6,_,w7,w8,w9,w10⟩:=q (hev hps) 0;rw[show(X.ex vals 0).e=X.e++vals from rfl,hps] at w1
      cases w1;have w4:X'.w=X.w:=w4;have w5:X'.S=X.S:=w5;rw[<-w4];refine hf ps X' a v3 w3 ⟨w6,by rw[w3,aD,hm,w2],w8,hI.ds,hI.n,hn,⟨w7,w9,w10 Xb (hI.st.sx.trans C8) h.lo h.e,?_,?_⟩⟩
      .rw[w4];exact hI.st.fr
      .rw[w5];exact hI.st.new
     .cases v3
    .cases hj
   .cases h1
  .rename_i hne;exact ab hne h1
def Iv.facts {X:Cx}{a:Act}{σ:SS}{m:Nat}(h:Iv base L Xb nt X a σ m):jC X.e σ.sz/\(∀p∈σ.fc,X.e[p.1]?=some p.2)/\ EvR X a.eval:=by
 have hs:=h.hσ;refine⟨by rw[<-hs];exact h.st.mr.sz,by rw[<-hs];exact h.st.mr.fc,vZ h.st.mr (by rw[hs];exact h.tm)⟩
def qz {G:Prop}{X:Cx}{a:Act}{σ:SS}{m:Nat}{hint:Hint}{hs hs':List Hint}{k:K}{body:List SF->Nat->List Hint->Option (K×List Hint)}{rest:Tm->List Hint->Option (K×List Hint)}(h:uq hint σ m J.length κ hs body rest=some (k,hs'))(hd:den Φ N k J X.e=some rs)
  (hK:Kont D F Φ N rs base L Xb nt n κ J e0 Q) (he:∃y,X.e=e0++y) (hI:Iv base L Xb nt X a σ m) (hrest:∀T h1,rest T h1=sym D F n (.pop .normal) (T.st σ) (m+T.p) κ J.length h1)
  (hb:∀κ' J' h0 k0 h0',body κ' J'.length h0=some (k0,h0')->den Φ N k0 J' X.e=some rs->Kont D F Φ N rs base L Xb nt n κ' J' X.e Q->G):G:=by
 unfold uq at h;split at h
 .exact hb κ J _ _ _ h hd (hK.ext he)
 .rename_i fT;have hT:∃T,T=fT σ:=⟨_,rfl⟩;obtain⟨T,hT⟩:=hT;rw[<-hT] at h;split at h
  .rename_i k1 h1 e1;split at h
   .rename_i d h2 e2;cases h;obtain⟨f1,f2,_⟩:=hI.facts;refine hb (.J J.length m T::κ) (J++[λvs=>den Φ N d J (X.e++vs)]) hs k1 h1 (by rw[aD];exact e1) hd ((hK.ext he).jump hI.len hI.n' f1 f2 (λps X' a' hf hX' hI'=>?_) λ_ _ _ _ h=>h);rw[hrest] at e2;have:=hK.pop n (aB _) .normal _ _ _ _ _ X' a' [] (by rw[bc];exact e2) (by rw[bc,hX'];exact hf) (by obtain⟨y,hy⟩:=he;exact⟨y++ps,by rw[hX',hy,bg]⟩) hI';exact this
   .cases h
  .cases h
end
section
variable {D:Dcf}{F:Fn}{Φ:FuncId->List PV->Option (List PV)}{N:Nat}{rs:List PV}{base:Nat}{L:Nat->Prop}{Xb:Cx}{nt:Nat}{n:Nat}{κ:List SF}{J:Js}{e0:List PV}{Q:Exit->Act->World->Prop}
def Sok (D:Dcf)(F:Fn)(Φ:FuncId->List PV->Option (List PV))(N:Nat)(rs:List PV)(base:Nat)(L:Nat->Prop)(n:Nat):Prop:=
 ∀{Xb:Cx} {nt:Nat} {tk:Tk} {σ:SS} {m:Nat} {κ:List SF} {hs:List Hint} {k:K} {hs':List Hint} {X:Cx} {a:Act} {J:Js} {e0:List PV} {Q:Exit->Act->World->Prop},sym D F n tk σ m κ J.length hs=some (k,hs')->den Φ N k J X.e=some rs->Kont D F Φ N rs base L Xb nt n κ J e0 Q->(∃y,X.e=e0++y)->Iv base L Xb nt X a σ m->
  match tk with
  | .code c=>c.wp D.P Q a X.w
  | .pop ex=>Q (xE ex) a X.w
  | .ops ops rest=>wpList D.P ops Q rest a X.w
  | .dops .. =>True
def Kont.seq (ih:∀i,i<n->Sok D F Φ N rs base L i)(h:Kont D F Φ N rs base L Xb nt n κ J e0 Q){c:Code}:Kont D F Φ N rs base L Xb nt n (.seq c::κ) J e0 (Exit.then (c.wp D.P Q) Q):=by
 refine⟨h.lo,h.e,λi hi ex σ m hs k hs' X a J' h1 h2 he hI=>?_⟩;cases i with
 |zero=>cases h1
 |succ i=>
  have hk:=(h.le (n':=i) (by omega)).app (J':=J');unfold sym at h1;simp only at h1;split at h1
  .exact ih i (by omega) h1 h2 hk he hI
  .rename_i hne;have:=ih i (by omega) h1 h2 hk he hI;cases ex with
   |normal=>exact absurd rfl hne
   |_=>exact this
def Kont.tl (ih:∀i,i<n->Sok D F Φ N rs base L i)(h:Kont D F Φ N rs base L Xb nt n κ J e0 Q){ops:Array Oper}{rest:List Oper}:Kont D F Φ N rs base L Xb nt n (.tl ops rest::κ) J e0 (Exit.then (wpList D.P ops Q rest) Q):=by
 refine⟨h.lo,h.e,λi hi ex σ m hs k hs' X a J' h1 h2 he hI=>?_⟩;cases i with
 |zero=>cases h1
 |succ i=>
  have hk:=(h.le (n':=i) (by omega)).app (J':=J');unfold sym at h1;simp only at h1;split at h1
  .exact ih i (by omega) h1 h2 hk he hI
  .rename_i hne;have:=ih i (by omega) h1 h2 hk he hI;cases ex with
   |normal=>exact absurd rfl hne
   |_=>exact this
def Kont.block (ih:∀i,i<n->Sok D F Φ N rs base L i)(h:Kont D F Φ N rs base L Xb nt n κ J e0 Q){id:Nat}:Kont D F Φ N rs base L Xb nt n (.block id::κ) J e0 (Exit.inBlock id Q):=by
 refine⟨h.lo,h.e,λi hi ex σ m hs k hs' X a J' h1 h2 he hI=>?_⟩;cases i with
 |zero=>cases h1
 |succ i=>
  have hk:=(h.le (n':=i) (by omega)).app (J':=J');unfold sym at h1;simp only at h1;split at h1
  .rename_i id';split at h1
   .rename_i hb;have hb:=bm hb;have:=ih i (by omega) h1 h2 hk he hI;simp[xE,Exit.inBlock,hb];exact this
   .rename_i hb;have hb:id'≠id:=λe=>by rw[e,tJ] at hb;cases hb
    have:=ih i (by omega) h1 h2 hk he hI;simp[xE,Exit.inBlock,hb];exact this
  .rename_i hne;have:=ih i (by omega) h1 h2 hk he hI;cases ex with
   |exit id=>exact absurd rfl (hne id)
   |_=>exact this
def Iv.stt {X:Cx}{a:Act}{σ:SS}{m:Nat}(h:Iv base L Xb nt X a σ m){σ':SS}(h1:σ'.bl=σ.bl)(h2:σ'.nb=σ.nb)(h3:jC X.e σ'.sz)(h4:∀p∈σ'.fc,X.e[p.1]?=some p.2):Ste X base L {X with σ:=σ'}:=by
 have hs:=h.hσ;exact(qP h.st.mr (σ':=σ') (λb=>by rw[h1,hs]) (by rw[h2,hs]) h3 h4).ste h.st.cn
def Iv.more {X:Cx}{a:Act}{σ:SS}{m:Nat}(h:Iv base L Xb nt X a σ m){y:List PV}:Iv base L Xb nt (X.ex y 0) a σ (X.e++y).length:=by
 have hx:=zm h.st.mr h.st.cn (y:=y) (N:=0);exact⟨h.hσ,rfl,λt sv ht=>let⟨v,q1,q2⟩:=h.tm t sv ht;⟨v,q1,q2.step hx.sx⟩,h.ds,h.n,h.n',h.st.trans hx⟩
def Iv.fact {X:Cx}{a:Act}{σ:SS}{m i:Nat}{b:PV}(h:Iv base L Xb nt X a σ m)(hi:X.e[i]?=some b):Iv base L Xb nt {X with σ:=mS σ i b} a (mS σ i b) m:=by
 have h1:=Iv.stt h (σ':=mS σ i b) rfl rfl h.facts.1 λp hp=>by
  rcases bz.1 hp with rfl|hp
  .exact hi
  .exact h.facts.2.1 p hp
 exact⟨rfl,h.len,λt sv ht=>let⟨v,q1,q2⟩:=h.tm t sv ht;⟨v,q1,q2.step h1.sx⟩,h.ds,h.n,h.n',h.st.trans h1⟩
def Ei {X:Cx}{v:Value}{x:A}{b:Bool}(h:CR X v (.a x))(hx:x.ev X.e=some (.bool b)):v= .bool b:=by
 cases h with
 |a h ht r=>
  rw[hx] at h;cases h;cases r with
  |v hp=>rfl
def okF_ok {B:Array Nat}{fs:List FP}(h:okF B fs=true){i j:Nat}{f g:FP}(hi:fs[i]?=some f)(hj:fs[j]?=some g)(hij:i<j):bfr B i j=true\/(∀b∈g.W,b∉f.F)/\∀b∈f.W,b∉g.F:=by
 have h1:=aV.1 h (g,j) (by rw[fH];exact hj);have h2:=aV.1 h1 (f,i) (by rw[fH];exact hi);simp only[gC,aJ] at h2;have dj:∀{l k:List Nat},U2 l k=true->∀b∈l,b∉k:=λh b hb hk=>by
  have:=aV.1 h b hb
  grind
 rcases h2 with(h2|h2)|⟨h2,h3⟩
 .exact absurd (cg h2) (by omega)
 .grind
 .grind
def wc (hΦ:∀g ps rs,Φ g ps=some rs->jo D g ps rs)(hL:D.loud=true->L base)(hfol:D.P.follows .mixedOrders=true){ops:Array Oper}(hst:oy ops (Region.before ops)=true){σ:SS}{m:Nat}{hs hs':List Hint}{k:K}{X:Cx}{a:Act}(h:sym D F n (.dops ops ops.toList []) σ m κ J.length hs=some (k,hs'))(hd:den Φ N k J X.e=some rs)
  (hK:Kont D F Φ N rs base L Xb nt n κ J e0 Q) (he:∃y,X.e=e0++y) (hI:Iv base L Xb nt X a σ m):wpAny D.P .any ops Q ops.size (Array.replicate ops.size false) a {X.w with drawn:=X.w.drawn+1}:=by
 rw[<-hI.len] at h;obtain⟨y,St,M,Fp,t⟩:=wb hΦ n 0 h hd hI.facts.2.1 rfl (b8 _);have ht:DT D Φ (X.e++y) ops St M Fp:=⟨λi o ho=>t.step i o (b8 _) ho,λi hi=>t.fc i (b8 _) hi⟩;unfold oy at hst;simp only[aJ] at hst;obtain⟨⟨hedge,htm⟩,_⟩:=hst;have hfs:∀i,i<ops.size->([]++(List.range' 0 (ops.size-0)).map Fp)[i]?=some (Fp i):=λi hi=>by simp[hi]
 have hfc0:=t.fc 0 (aB _) (b8 _);have hs0:=t.same;have hdom:∀b sb,look (St 0).bl b=some sb->b<(St 0).nb:=λb sb hl=>by
  rw[hs0.bl,<-hI.hσ] at hl;rw[hs0.nb,<-hI.hσ];exact hI.st.cn b (hI.st.mr.lt b sb hl)
 have hT:DTs ops St Fp:=by
  refine⟨λi j hi hj hne b hb hb'=>?_,λi j o ho hne t' hn hdj=>?_,hdom⟩
  .by_cases h:i<j
   .rw[bM (by omega),Nat.max_eq_right (by omega)];rcases okF_ok t.ok (hfs i hi) (hfs j hj) h with h|⟨_,h2⟩
    .exact h
    .exact absurd hb' (h2 b hb)
   .rw[gh (by omega),iJ (by omega)];rcases okF_ok t.ok (hfs j hj) (hfs i hi) (by omega) with h|⟨h1,_⟩
    .exact h
    .exact absurd hb' (h1 b hb)
  .unfold SE at htm;rw[aV] at htm;have h1:=htm (o,i) (by rw[fH];simpa using ho)
   rw[aV] at h1;cases hoj:ops[j]? with
   |none=>unfold qQ at hdj;rw[hoj] at hdj;cases hdj
   |some o'=>
    have h2:=h1 (o',j) (by rw[fH];simpa using hoj)
    have hd':o'.dst=some t':=by unfold qQ at hdj;rw[hoj] at hdj;exact hdj
    simp only[hd',gC,beq_iff_eq,aE] at h2;rcases h2 with h2|h2|h2
    .exact absurd h2.symm hne
    .exfalso;have:(vV ops o).contains t'=true:=by simpa using hn
     rw[this] at h2;cases h2
    .rw[zL,Nat.max_comm];exact h2
 have hI1:=hI.more (y:=y);have hX0:=Iv.stt hI1 (σ':=St 0) hs0.bl hs0.nb (by rw[hs0.sz];exact hI1.facts.1) hfc0;have hT0:uT {X.ex y 0 with σ:=St 0} (St 0).tm a.tmps:=λt' sv hl=>by
  rw[hs0.tm] at hl;obtain⟨v,q1,q2⟩:=hI1.tm t' sv hl;exact⟨v,q1,q2.step hX0.sx⟩
 refine Pd (id:=0) (X0:={X.ex y 0 with σ:=St 0}) (y:=[]) hΦ hL hfol hX0.mr hX0.cn hT0 hI.ds (by rw[hI.n,hs0.n];exact hI.n'.symm) rfl (by rw[bc];exact ht) hT hedge λa' X' w1 w2 w3 w4 w5 w6=>?_
 obtain⟨n',h1,h2,k',q1,q2,q3⟩:=t.next;obtain⟨y0,hy0⟩:=he;have w2:X'.e=X.e++y:=by rw[w2,bc];rfl
 refine hK.pop n' (by omega) .normal _ _ _ _ _ X' a' [] (by rw[bc];exact q2) (by rw[bc,w2];exact q3) ⟨y0++y,by rw[w2,hy0,bg]⟩ ⟨w1,by rw[w2],w4,w5,?_,?_,(hI1.st.trans hX0).trans w3⟩
 .rw[w6,(ht.n (aB _)).1,hs0.n];exact hI.n'
 .rw[(ht.n (aB _)).1,hs0.n];exact hI.n'
end
end Go.Sym
