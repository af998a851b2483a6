/- Lemmas for the law of this claim. -/
import Derived.Test.YtcphhjkcgikdgaaGreatDoorP36
import Derived.Test.YtcphhjkcgikdgaaGreatDoorP38
import Derived.Test.YtcphhjkcgikdgaaGreatDoorP41
import Derived.Test.YtcphhjkcgikdgaaGreatDoorP31
import Derived.Test.YtcphhjkcgikdgaaGreatDoorP40
import Derived.Test.YtcphhjkcgikdgaaGreatDoorP37
set_option linter.all false
set_option maxRecDepth 100000
set_option maxHeartbeats 8000000
namespace Go.Dv.Tryz
section
open Go Go.Dv
def PA{p:Pc}{b:Int}(a:PS tb 163 [.agg (cq p)] (.int .i64 b))(c:¬b=0)(f:Bool)(args:List bX)(g:args.length<=1048576):∃r:Int,PS tb 80 [.agg (cq p),.slice f (bF args)] (.int .i64 r)/\r≠0:=by
 have d:PS tb 132 [.agg (cq p)] (.tuple [.undef,.int .i64 b]):=by
  refine bM (af:=DH) rfl rfl ?_;unfold DH;dsimp only[List.map,aQ,aj,cq];dsimp only[cq]at a;exact gP c a k0
 have e:PS tb 111 [.agg (cq p)] (.int .i64 b):=by
  refine bM (af:=Jt) rfl rfl ?_;unfold Jt;dsimp only[List.map,aQ,aj,cq];dsimp only[cq]at d;exact gP trivial d k0
 refine mA (af:=a80) rfl rfl ?_;unfold a80;dsimp only[List.map,aQ,aj,cq];dsimp only[cq]at e;refine gP (c9 c @cv @b6) e (k1 ?_);all_goals exact⟨⟨_,by decide⟩,rfl⟩
def Ij{p:Pc}(h:jM p){a:Bool}{args:List bX}(f:args.length<=1048576)(n:∀v∈args,cQ v)(g:kQ p a args=0):oo p.body/\args.length=p.ps.length/\∀v∈args,tP v=true:=by
 obtain⟨e,i,o⟩:=FY p h a args f λv b=>(n v b).2.2
 have j:PS tb 80 [.agg (cq p),.slice a (bF args)] (.int .i64 (kQ p a args)):=j9 (p:=λe=>PS tb 80 [.agg (cq p),.slice a (bF args)] (.int .i64 e)) ⟨e,i⟩;have k:=sr j i;simp only[PV.int.injEq,true_and]at k;refine⟨?_,o (by rw[<-k];exact g)⟩;obtain⟨q,c,d⟩:=rV p h;by_cases l:q=0
 .exact d l
 .obtain⟨r,s,t⟩:=PA c l a args f;have m:=sr j s;simp only[PV.int.injEq,true_and]at m;exact absurd (by rw[<-m];exact g) t
def Xf(a:Int):ID a=D2 a:=by
 have:=sr (HH a) (H0 a);simpa using this
mutual
theorem Hy(e:aF)(h:Ar e):MN e:=by
 cases e with
 |mk g n s f b=>
  simp only[Ar]at h;obtain⟨⟨a,c⟩,d⟩:=h;rw[Xf]at a;simp only[MN];refine⟨c,λh=>?_,λh=>?_,Ju b d⟩
  .rw[h]at a;unfold D2 at a;unfold CA qa;split at a
   .omega
   .split at a
    .omega
    .split at a<;>omega
  .unfold qa at h;unfold D2 at a;rw[an ae,an ae,aq ae]at a;omega
theorem Ju(l:List aF)(h:IT l):Dz l:=by
 cases l with
 |nil=>simp only[Dz]
 |cons e r=>
  simp only[IT]at h;simp only[Dz];exact⟨Hy e h.1,Ju r h.2⟩
end
mutual
theorem Xe(s:aX)(h:EO s):Tb s:=by
 cases s with
 |mk p name max a b f c g d=>
  simp only[EO,nd]at h;obtain⟨⟨j,k,l,m,i⟩,n,o⟩:=h;simp only[Tb];exact⟨⟨j,k⟩,λe=>⟨by have:=i e;omega,by have:=i e;omega⟩,λe=>Hy a (l e),λe=>Hy b (m e),xI c n,xI d o⟩
theorem xI(l:List aX)(h:oo l):Bb l:=by
 cases l with
 |nil=>simp only[Bb]
 |cons s r=>
  simp only[oo]at h;simp only[Bb];exact⟨Xe s h.1,xI r h.2⟩
end
def YA{v:bX}(h:tP v=true)(a:cQ v):KV v:=by
 refine⟨?_,a⟩;unfold tP at h;unfold jF me;by_cases k1:v.k=1
 .simp_all
 .by_cases k2:v.k=2
  .simp_all
  .simp_all
end
section
open Go Go.Dv
def Cz.A(c:Cz):Cz:=⟨c.g,true,[],[]⟩
structure Sm{α:Type}(F:Cz->MS->Rs α):Prop where
 rm:∀c m k,k∈m.reads->k∈(F c m).ms.reads
 pm:∀c m k,k∈m.cm->k∈(F c m).ms.cm
 cmp:∀c m,c.all=false->F c m=F c.A m\/∃key m',F c m=.no 3 0 key m'/\((key∉c.rd/\key∈(F c.A m).ms.reads)\/(key∉c.wr/\key∈(F c.A m).ms.cm))
 nr:∀c m st cd key m',c.all=true->F c m=.no st cd key m'->st≠3
def Sm.bind{α β:Type}{F:Cz->MS->Rs α}{H:α->Cz->MS->Rs β}(hF:Sm F)(hH:∀a,Sm (H a)):Sm (λc m=>(F c m).bind λa m=>H a c m) where
 rm c m k hk:=by
  have h1:=hF.rm c m k hk;cases e:F c m with
  |ok a m'=>rw[e]at h1;exact(hH a).rm c m' k h1
  |no st cd key m'=>rw[e]at h1;exact h1
 pm c m k hk:=by
  have h1:=hF.pm c m k hk;cases e:F c m with
  |ok a m'=>rw[e]at h1;exact(hH a).pm c m' k h1
  |no st cd key m'=>rw[e]at h1;exact h1
 cmp c m ha:=by
  rcases hF.cmp c m ha with e|⟨key,m',e,h⟩
  .rw[e];cases e2:F c.A m with
   |ok a m'=>exact(hH a).cmp c m' ha
   |no st cd key m'=>exact .inl rfl
  .rw[e];refine .inr ⟨key,m',rfl,h.imp (λh=>⟨h.1,?_⟩) (λh=>⟨h.1,?_⟩)⟩
   .cases e2:F c.A m with
    |ok a m2=>have:=h.2;rw[e2]at this;exact(hH a).rm c.A m2 key this
    |no st cd k2 m2=>have:=h.2;rw[e2]at this;exact this
   .cases e2:F c.A m with
    |ok a m2=>have:=h.2;rw[e2]at this;exact(hH a).pm c.A m2 key this
    |no st cd k2 m2=>have:=h.2;rw[e2]at this;exact this
 nr c m st cd key m' ha h:=by
  cases e:F c m with
  |ok a m2=>rw[e]at h;exact(hH a).nr c m2 st cd key m' ha h
  |no st2 cd2 k2 m2=>
   rw[e]at h;cases h;exact hF.nr c m _ _ _ _ ha e
def Sm.plain{α:Type}{f:MS->Rs α}(h:∀m,(f m).ms.reads=m.reads/\(f m).ms.cm=m.cm)(h2:∀m st cd key m',f m=.no st cd key m'->st≠3):Sm (λ_ m=>f m) where
 rm c m k hk:=by rw[(h m).1];exact hk
 pm c m k hk:=by rw[(h m).2];exact hk
 cmp c m _:=.inl rfl
 nr c m st cd key m' _ e:=h2 m st cd key m' e
def Sm.ite{b:Type}{p:Prop}[Decidable p]{F H:Cz->MS->Rs b}(d:Sm F)(e:Sm H):Sm (λc m=>if p then F c m else H c m):=by
 by_cases a:p
 .simpa only[a,bZ]using d
 .simpa only[a,cy]using e
def Sm.ok{b:Type}(a:b):Sm (λ_ m=>Rs.ok a m):=.plain (λ_=>⟨rfl,rfl⟩) λ_ _ _ _ _ e=>by cases e
def Sm.abort{a:Type}(b:Int):Sm (λ_ m=>(bB b m:Rs a)):=.plain (λ_=>⟨rfl,rfl⟩) λ_ _ _ _ _ e=>by cases e;decide
def Sm.Hq(x:An):Sm (λ_ m=>jd x m):=by
 cases x with
 |ok v=>exact .ok v
 |error e=>exact .abort e
def Sm.tick:Sm (λ_ m=>gW m):=.plain (λm=>by unfold gW;split<;>exact⟨rfl,rfl⟩) λm b c a d e=>by
 unfold gW at e;split at e
 .cases e;decide
 .cases e
def Sm.emit(v:bX):Sm (λ_ m=>nM v m):=.plain (λm=>by unfold nM;split<;>exact⟨rfl,rfl⟩) λm b c a d e=>by
 unfold nM at e;split at e
 .cases e;decide
 .cases e
def Sm.HF(key:ByteArray):Sm (λc m=>fB c key m) where
 rm c m k hk:=(Gd.HF key).mono c m k hk
 pm c m k hk:=by
  unfold fB;split
  .cases m.own key with
   |some v=>exact hk
   |none=>simp only;split<;>exact hk
  .exact hk
 cmp c m ha:=by
  unfold fB;split
  .cases m.own key with
   |some v=>exact .inl rfl
   |none=>
    simp only[ha,Cz.A,Bool.not_false,Bool.true_and,Bool.not_true,Bool.false_and,Bool.false_eq_true,cy];split
    .rename_i hn;refine .inr ⟨key,m,rfl,.inl ⟨λh=>?_,gM.2 (.inl rfl)⟩⟩;rw[gp.2 h]at hn;cases hn
    .exact .inl rfl
  .exact .inl rfl
 nr c m st cd k m' ha e:=by
  unfold fB at e;split at e
  .cases e2:m.own key with
   |some v=>rw[e2]at e;cases e
   |none=>rw[e2]at e;simp[ha]at e
  .cases e;decide
def Sm.store(key:ByteArray)(v:bX):Sm (λc m=>fe c key v m) where
 rm c m k hk:=(Gd.store key v).mono c m k hk
 pm c m k hk:=by
  unfold fe;split
  .split
   .exact hk
   .exact gM.2 (.inr hk)
  .exact hk
 cmp c m ha:=by
  unfold fe;split
  .simp only[ha,Cz.A,Bool.not_false,Bool.true_and,Bool.not_true,Bool.false_and,Bool.false_eq_true,cy];split
   .rename_i hn;refine .inr ⟨key,m,rfl,.inr ⟨λh=>?_,gM.2 (.inl rfl)⟩⟩;rw[gp.2 h]at hn;cases hn
   .exact .inl rfl
  .exact .inl rfl
 nr c m st cd k m' ha e:=by
  unfold fe at e;split at e
  .simp[ha]at e
  .cases e;decide
def Sm.un(b:Int)(a:bX):Sm (λc m=>gj c b a m):=by
 unfold gj;refine .ite (.ite (.Hq _) (.abort _)) (.ite (.ite (.ok _) (.abort _)) (.ite (.ite (.Hq _) (.abort _)) (.ite (.ite (.ok _) (.abort _)) (.ite ?_ (.abort _)))));exact(Sm.HF a.s).bind λv=>.Hq _
def Sm.op(a:Int)(l:List bX):Sm (λc m=>mD c a l m):=by
 unfold mD;split
 .exact .un _ _
 .exact .Hq _
 .exact .abort _
mutual
theorem lj(e:aF):Sm (λc m=>cG c e m):=by
 cases e with
 |mk b n s f d=>
  simp only[cG];refine .ite (.ok _) (.ite (.ok _) (.ite ?_ ?_))
  .refine .plain (λm=>?_) λm h i g j e=>?_
   .cases m.vars s<;>exact⟨rfl,rfl⟩
   .cases a:m.vars s with
    |none=>rw[a]at e;cases e;decide
    |some v=>rw[a]at e;cases e
  .exact(CM d).bind λl=>.op b l
theorem CM(l:List aF):Sm (λc m=>dX c l m):=by
 cases l with
 |nil=>simp only[dX];exact .ok _
 |cons e r=>
  simp only[dX];exact(lj e).bind λv=>(CM r).bind λl=>.ok _
end
def Sm.loop{f:Cz->Int->MS->Rs Unit}(a:∀i,Sm (λc m=>f c i m)):∀(n:Nat) (i:Int),Sm (λc m=>j7 (f c) n i m)
 |0,i=>.ok _
 |n+1,i=>by
  simp only[j7];exact(a i).bind λ_=>Sm.loop a n (i+1)
mutual
theorem SG(s:aX):Sm (λc m=>cj c s m):=by
 cases s with
 |mk j name max a b f d g h=>
  have set:∀(v:bX),Sm (λ_ m=>Rs.ok () (gk name v m)):=λv=>.plain (λ_=>⟨rfl,rfl⟩) λ_ _ _ _ _ e=>by cases e
  simp only[cj];refine .ite ((lj a).bind λv=>set v) (.ite ?_ (.ite ?_ (.ite ?_ (.ite ?_ (.ite ?_ (.ite (.abort _) (.ok _)))))))
  .exact(lj a).bind λk=>(lj b).bind λv=>.ite (.store _ _) (.abort _)
  .exact(lj a).bind λk=>.ite (.store _ _) (.abort _)
  .exact(lj a).bind λx=>.ite (.ite (ng d) (ng h)) (.abort _)
  .refine(lj a).bind λx=>(lj b).bind λy=>.ite (.ite (.abort _) ?_) (.abort _)
   refine Sm.loop (f:=λc i m=>(gW m).bind λ_ m=>bN c d (gk name (dt i) m)) (λi=>?_) _ _;exact Sm.tick.bind λ_=>(set (dt i)).bind (H:=λ_ c m=>bN c d m) λ_=>ng d
  .exact(lj a).bind λv=>.ite (.emit _) (.abort _)
theorem ng(l:List aX):Sm (λc m=>bN c l m):=by
 cases l with
 |nil=>simp only[bN];exact .ok _
 |cons s r=>
  simp only[bN];exact Sm.tick.bind λ_=>(SG s).bind λ_=>ng r
end
def EZ(r:Rs Unit)(h:(dS r).st=3):∃c b m,r=.no 3 c b m:=by
 cases r with
 |ok a m=>simp[dS]at h
 |no d c b m=>simp only[dS]at h;subst h;exact⟨c,b,m,rfl⟩
def NH(l:List aX)(c:Cz)(m:MS)(h:c.all=true):(dS (bN c l m)).st≠3:=λe=>by
 obtain⟨b,a,d,e⟩:=EZ _ e;exact(ng l).nr c m 3 b a d h e rfl
def Xh(l:List aX)(c:Cz)(m:MS)(f:c.all=false)(a:∀k∈(dS (bN c.A l m)).reads,k∈c.rd)(b:∀k∈(dS (bN c.A l m)).cm,k∈c.wr):(dS (bN c l m)).st≠3:=λe=>by
 rw[rU]at a;rw[II]at b;rcases(ng l).cmp c m f with d|⟨g,i,d,h⟩
 .rw[d]at e;exact NH l c.A m rfl e
 .rcases h with h|h
  .exact h.1 (a _ h.2)
  .exact h.1 (b _ h.2)
end
section
open Go Go.Dv
def gY:List Pm->List bX->VX->VX
 |p::a,v::b,V=>gY a b (V.set p.name (some v))
 |[],_,V=>V
 |_::_,[],V=>V
def AO:∀(a:List Pm) (b:List bX) (V:VX) (i:Nat) (h:i<a.length) (c:i<b.length),gY (a.take (i+1)) b V=(gY (a.take i) b V).set a[i].name (some b[i])
 |[],_,_,_,h,_=>by simp at h
 |_::_,[],_,_,_,h=>by simp at h
 |p::a,v::b,V,0,_,_=>by simp[gY]
 |p::a,v::b,V,i+1,h,c=>by
  simp only[List.take_succ_cons,gY,List.getElem_cons_succ];exact AO a b _ i (by simpa using h) (by simpa using c)
def DN:∀(b:List Pm) (a:List bX) (V:VX) (m:MS),(∀v∈a,KV v)->nS V m.vars->nS (gY b a V) (fE b a m).vars
 |[],_,_,_,_,h=>by simpa[gY,fE]using h
 |_::_,[],_,_,_,h=>by simpa[gY,fE]using h
 |p::b,v::a,V,m,c,h=>by
  rw[gY,fE];refine DN b a _ _ (λw d=>c w (List.mem_cons_of_mem _ d)) (h.set p.name λw e=>?_);cases e;exact⟨rfl,c _ aB⟩
def E9:∀(b:List Pm) (a:List bX) (V:VX),(∀v∈a,cQ v)->VK V->pQ V->VK (gY b a V)/\pQ (gY b a V)
 |[],_,_,_,h,k=>by simp only[gY];exact⟨h,k⟩
 |_::_,[],_,_,h,k=>by simp only[gY];exact⟨h,k⟩
 |p::b,v::a,V,c,h,k=>by
  rw[gY];exact E9 b a _ (λw d=>c w (List.mem_cons_of_mem _ d)) (wO h _ _ λw e=>by cases e;exact c _ aB) (ta k _ _)
abbrev vE:VX:=⟨0,λ_=>none⟩
abbrev Mx:XS:=⟨[],[],false⟩
def vk0:VK vE:=λk v e=>by cases e
def en0:pQ vE:=tO.2 ⟨[],List.nodup_nil,λk=>aB,rfl⟩
def Xq:wq Mx:=⟨List.Pairwise.nil,List.Pairwise.nil⟩
abbrev vq:Ft:=⟨true,true,[],true,[]⟩
def lB(p:Pc)(args:List bX):XS:=(bp p.body (gY p.ps args vE) Mx).2
def Ca(x:XS):Bool:=!x.failed&&(decide (x.rd.length<=64)&&decide (x.wr.length<=64))
noncomputable def ju (p:Pc) (t:Tx) (s:List Pr):Ef:=qR p {t with eT:=vq} s
noncomputable def oB (p:Pc) (t:Tx) (s:List Pr):Ft:=
 if oG p=0/\kQ p t.fa t.args=0 then
  if Ca (lB p t.args)=true then⟨false,false,(lB p t.args).rd,false,(lB p t.args).wr⟩
  else if lu s=true then⟨false,false,(ju p t s).reads,false,(ju p t s).cm⟩
  else vq
 else vq
noncomputable def c8 (a:List Pc) (s:List Pr) (t:Tx):Tx:=match a.find? (sV t)with
 |some p=>{t with eT:=oB p t s}
 |none=>t
def KZ(a:List Pc)(s:List Pr)(t:Tx):(c8 a s t).proc=t.proc/\(c8 a s t).fa=t.fa/\(c8 a s t).args=t.args:=by
 unfold c8;split<;>exact⟨rfl,rfl,rfl⟩
def OK(a:List Pc)(s:List Pr)(t:Tx):sV (c8 a s t)=sV t:=by
 funext p;unfold sV;rw[(KZ a s t).1]
def Fu{a:List Pc}{l:List Tx}{s:List Pr}(h:lu s=true){k:ByteArray}:∀n,(∀j,j<n->∀w∈(jo a l s j).writes,w.key≠k)->cX (ij a l s n) k=cX s k
 |0,_=>rfl
 |n+1,b=>by
  have c:=Fu h n λj g=>b j ae
  have d:=(Ia (Oe a l h n).1 (kj a (gx l n) (ij a l s n))).2
  show cX (jO (ij a l s n) (kj a (gx l n) (ij a l s n))) k=_
  rw[d,tv,c];rintro⟨_,_,w,f,e⟩;exact b n ae w f e
def P8{p:Pc}{t:Tx}{s q:List Pr}(j:jM p)(d:sX t)(w:ka q)(h:kQ p t.fa t.args=0)(l:oG p=0)
  (a:(dS (bN (sM (cX q) (oB p t s)) p.body (fE p.ps t.args jI))).st=3):lu s=true/\¬∀k∈(dS (bN (sM (cX q) (oB p t s)) p.body (fE p.ps t.args jI))).reads,cX s k=cX q k:=by
 obtain⟨x,n,y⟩:=Ij j d.al d.vs h;have z:=wN p.ps t.args jI B4 d.vs;unfold oB at a⊢;rw[aq ⟨l,h⟩]at a⊢;by_cases f:Ca (lB p t.args)=true
 .rw[aq f]at a;exfalso;simp only[Ca,aO,jW,cp]at f;have A:om (sM (cX q) ⟨false,false,(lB p t.args).rd,false,(lB p t.args).wr⟩) (bp p.body (gY p.ps t.args vE) Mx).2:=⟨f.1,λk b=>b,λk b=>b⟩;have i:nS (gY p.ps t.args vE) (fE p.ps t.args jI).vars:=DN _ _ _ _ (λv o=>YA (y v o) (d.vs v o)) λk v e=>by cases e
  have r:=lV (c:=sM (cX q) ⟨false,false,(lB p t.args).rd,false,(lB p t.args).wr⟩) rfl w.g p.body j.bo (xI _ x) _ _ _ z i A;obtain⟨E,B,m,e⟩:=EZ _ a;rw[e]at r;exact r rfl
 .rw[an f]at a⊢;by_cases g:lu s=true
  .rw[aq g]at a⊢;refine⟨g,λC=>?_⟩;have D:=xA p.body (sM (cX q) ⟨false,false,(ju p t s).reads,false,(ju p t s).cm⟩) (fE p.ps t.args jI) (cX s) C;rw[<-D]at a;have u:ju p t s=dS (bN (sM (cX s) vq) p.body (fE p.ps t.args jI)):=by
    unfold ju qR;rw[aq ⟨l,h,g,rfl⟩]
   refine Xh p.body (Cz.w (sM (cX q) ⟨false,false,(ju p t s).reads,false,(ju p t s).cm⟩) (cX s)) (fE p.ps t.args jI) rfl ?_ ?_ a
   .intro k b
    show k∈(ju p t s).reads
    rw[u];exact b
   .intro k b
    show k∈(ju p t s).cm
    rw[u];exact b
  .rw[an g]at a;exact absurd a (NH p.body _ _ rfl)
def TQ{a:List Pc}{s:List Pr}{l:List Tx}(x:∀p∈a,jM p)(y:∀t∈l,sX t)(z:Ac a (l.map (c8 a s)))(A:s.length<=1048576/\∀p∈s,cQ p.v){i:Nat}(n:i<l.length)(b:(jo a (l.map (c8 a s)) s i).st=3):
  (a.find? (sV l[i])).isSome=true/\∃k,k<i/\∃w∈(jo a (l.map (c8 a s)) s k).writes,w.key∈(jo a (l.map (c8 a s)) s i).reads:=by
 have o:gx (l.map (c8 a s)) i=c8 a s l[i]:=by simp[gx,List.getD_eq_getElem?_getD,n]
 have r:=(ra z A i (by rw[List.length_map];omega)).2;unfold jo at b;rw[o]at b;unfold kj at b;cases c:lA a (c8 a s l[i])with
 |none=>rw[c]at b;simp at b
 |some p=>
  rw[c]at b;simp only at b;have d:=vG c;have u:a.find? (sV l[i])=some p:=by
   unfold lA at c;rw[OK]at c;split at c
   .rename_i q e;split at c
    .cases c;exact e
    .cases c
   .cases c
  refine⟨by rw[u];rfl,?_⟩
  have g:c8 a s l[i]={l[i]with eT:=oB p l[i] s}:=by unfold c8;rw[u]
  have f:jo a (l.map (c8 a s)) s i=qR p (c8 a s l[i]) (ij a (l.map (c8 a s)) s i):=by unfold jo kj;rw[o,c]
  rw[g]at b f;generalize h:ij a (l.map (c8 a s)) s i=q at b f r;unfold qR at b f;split at b
  case isFalse=>simp at b
  rename_i v;rw[aq v]at f;obtain⟨B,C,I,J⟩:=v;obtain⟨D,E⟩:=P8 (s:=s) (x p d) (y _ (List.getElem_mem n)) r C B b;rw[f];refine Sl λm=>E λk F=>?_
  rw[<-h];exact(Fu D i λj G w H e=>m ⟨j,G,w,H,by rw[e];exact F⟩).symm
end
section
open Go Go.Dv
abbrev Rf:List PV:=[.bool false,.slice true [],.slice true []]
def IZ(p:Pc)(d:Bool)(args:List bX){b e:Int}(c:PS tb 81 [.agg (cq p)] (.int .i64 b))(f:PS tb 80 [.agg (cq p),.slice d (bF args)] (.int .i64 e)):PS tb 100 [.agg (cq p),.slice d (bF args)] (.bool (decide (b=0)&&decide (e=0))):=by
 refine bM (af:=Ss) rfl rfl ?_;unfold Ss;dsimp only[List.map,aQ,aj,cq];dsimp only[cq]at c f;by_cases a:b=0
 .exact gP (aZ a) (bf c f) k0;all_goals simp[a]
 .exact gP a c k0;all_goals simp[a]
def lx0:LX [] 5:=⟨Nat.le_refl _,λ_ _=>rfl,λ_ _=>rfl,λ_ _=>rfl⟩
def Co(x:XS):List PV×Int:=if x.failed=true then(Rf,9)else if 64<x.rd.length\/64<x.wr.length then(Rf,2)else([.bool false,.slice false (aA x.rd),.slice false (aA x.wr)],0)
def Eg(p:Pc)(a:Bool)(args:List bX)(b:PS tb 100 [.agg (cq p),.slice a (bF args)] (.bool false)):PS tb 64 [.agg (cq p),.slice a (bF args)] (.tuple [.agg Rf,.int .i64 1]):=by
 refine bM (af:=Tq) rfl rfl ?_;unfold Tq;dsimp only[List.map,aQ,aj,cq];dsimp only[cq]at b;exact gP trivial b k0;all_goals rfl
def Em(p:Pc)(q:Bool)(args:List bX)(h:jM p)(s:oo p.body)(l:args.length=p.ps.length)(H:∀v∈args,cQ v)(m:PS tb 100 [.agg (cq p),.slice q (bF args)] (.bool true)):PS tb 64 [.agg (cq p),.slice q (bF args)] (.tuple [.agg (Co (lB p args)).1,.int .i64 (Co (lB p args)).2]):=by
 have I:=h.pl;refine bM (af:=Tq) rfl rfl ?_;unfold Tq;dsimp only[List.map,aQ,aj,cq];dsimp only[cq]at m;refine gP @cv m (k1 ?_);refine bU (λj B=>∃(i:Nat) (V:VX),i+j=args.length/\V=gY (p.ps.take i) args vE/\B=⟨[(2,.ptr 0 0),(4,.ptr 1 0),(6,.ptr 4 0),(7,.ptr 5 0),(20,.p (.slice q (bF args))),(21,.p (.int .i64 args.length)),(22,.p (.int .i64 i))],(5,.map false (.strs V.n (dJ V.f)))::[(4,.var false [.ptr 2 0,.ptr 3 0,.p (.bool false)]),(3,.map false (.strs 0 λ_=>none)),(2,.map false (.strs 0 λ_=>none)),(1,.var false [.p (.bool false),.p (.slice true []),.p (.slice true [])]),(0,.var false [.p (.str p.name),.p (.slice p.fp (e9 p.ps)),.p (.slice p.fb (bD p.body))])],6,[0]⟩) ?_ args.length _ ⟨0,vE,ae,by simp[gY],rfl⟩;rintro j B ⟨i,V,P,e,rfl⟩;refine bq Oc.eq_1 ?_;rcases cK i args.length with c|c
 .have f:(i:Int)<args.length:=ae;have C:(0:Int)<=i:=ae;have D:=tF args i c;have E:=lT p.ps i ae;have F:(i:Int)<p.ps.length:=ae;have t:=AO p.ps args vE i ae c;rw[<-e]at t;have g:=wU V p.ps[i].name (some args[i]);simp only[Option.isSome_some,il]at g;cases n:V.f p.ps[i].name with
  |none=>
   have u:=tJ n;have w:=xO (a:=some args[i]) n;refine gN (pL f C D E F u g qm @cv @b6) (k1 ?_);exact LI.next (m':=j-1) ae ⟨i+1,V.set p.ps[i].name (some args[i]),ae,t.symm,by rw[w]⟩
  |some z=>
   have u:=s8 n;have w:=yS (a:=some args[i]) n;refine gN (pL f C D E F u g rq @cv @b6) (k1 ?_);exact LI.next (m':=j-1) ae ⟨i+1,V.set p.ps[i].name (some args[i]),ae,t.symm,by rw[w]⟩
 .have f:¬(i:Int)<args.length:=ae;obtain rfl:i=args.length:=ae;rw[l,List.take_length]at e;subst e;obtain⟨J,y⟩:=E9 p.ps args vE H vk0 en0;have b:=RY p h s _ 6 Mx (gY p.ps args vE) (LX.cons (k:=.map true (.strs (gY p.ps args vE).n (dJ (gY p.ps args vE).f))) lx0) Xq J y;have d:=(dV p.body (gY p.ps args vE) Mx).o Xq;unfold lB;generalize bp p.body (gY p.ps args vE) Mx=r at b d⊢;generalize gY p.ps args vE=V at b⊢;obtain⟨G,x⟩:=r;have K:Hx p Mx=[(4,.var false [.ptr 2 0,.ptr 3 0,.p (.bool false)]),(3,.map false (.strs 0 λ_=>none)),(2,.map false (.strs 0 λ_=>none)),(1,.var false [.p (.bool false),.p (.slice true []),.p (.slice true [])]),(0,.var false [.p (.str p.name),.p (.slice p.fp (e9 p.ps)),.p (.slice p.fb (bD p.body))])]:=rfl;rw[K]at b;simp only[iL,Hx,List.cons_append,List.nil_append]at b;dsimp only at d⊢;generalize jj G=Q at b;generalize G.isSome=R at b;unfold Co;cases m:x.failed with
  |true=>
   rw[aq rfl];rw[m]at b;exact gR f trivial b k0;all_goals rfl
  |false=>
   rw[an (by decide)];rw[m]at b;by_cases L:64<x.rd.length
   .rw[aq (.inl L)];have o:((x.rd.length:Int)>64)=True:=aZ ae;exact gR (bf f o) trivial b k0;all_goals rfl
   .have o:¬(x.rd.length:Int)>64:=ae;by_cases M:64<x.wr.length
    .rw[aq (.inr M)];have A:((x.wr.length:Int)>64)=True:=aZ ae;exact gR (c9 f o A) trivial b k0;all_goals rfl
    .rw[an ae];have A:¬(x.wr.length:Int)>64:=ae;have N:=Cy x.rd d.r ae;have O:=Cy x.wr d.w ae;exact gR (c9 f o A) (bf N O) b k0;all_goals rfl
end
section
open Go Go.Dv
def B1(l:List ByteArray)(b:Bool)(h:l.length<=68719476736):PS tb 129 [.slice b (aA l)] (.slice false (aA l)):=by
 refine⟨0,?_⟩;have a:tb.A 129=none:=rfl;have c:l.length*16<=ak:=by simp only[ak];omega
 have d:l.length<=ak:=by simp only[ak];omega
 have e:tb.X=outside:=rfl;simp only[dG,a,e];simp[outside,aI.or,ln,lI,Er,aE,c,d]
def Yp(e:Ef)(h:Ff e):PS tb 103 [.agg (od e)] (.agg [.bool false,.slice false (aA e.reads),.slice false (aA e.cm)]):=by
 have a:=B1 e.reads e.fr (by have:=h.rl;omega);have b:=B1 e.cm e.fp (by have:=h.pl;omega);refine bM (af:=R1) rfl rfl ?_;unfold R1;dsimp only[List.map,aQ,aj,od];exact gP trivial (bf a b) k0;all_goals rfl
def UG{p:Pc}{t:Tx}(h:wA p {t with eT:=vq}){s:List Pr}(c:ka s)(b:Bool):PS tb 104 [.agg (cq p),.slice t.fa (bF t.args),.slice b (bm s)] (.agg (od (ju p t s))):=by
 have a:=Jc h c b;refine bM (af:=Rp) rfl rfl ?_;unfold Rp;dsimp only[List.map,aQ,aj,cq];unfold ju;generalize qR p {t with eT:=vq} s=e at a⊢;dsimp only[cq,rH,od,aA,List.map]at a⊢;exact gP trivial a k0;all_goals rfl
noncomputable def KQ (p:Pc) (t:Tx) (s:List Pr):List PV×Int:=if(oG p=0/\kQ p t.fa t.args=0)/\lu s=true then([.bool false,.slice false (aA (ju p t s).reads),.slice false (aA (ju p t s).cm)],0)else(Rf,1)
def O7{p:Pc}{t:Tx}(h:wA p {t with eT:=vq}){s:List Pr}(f:ka s)(i:Bool):PS tb 65 [.agg (cq p),.slice t.fa (bF t.args),.slice i (bm s)] (.tuple [.agg (KQ p t s).1,.int .i64 (KQ p t s).2]):=by
 have k:PS tb 81 [.agg (cq p)] (.int .i64 (oG p)):=j9 h.ck;have l:PS tb 80 [.agg (cq p),.slice t.fa (bF t.args)] (.int .i64 (kQ p t.fa t.args)):=j9 h.ar;have c:=IZ p t.fa t.args k l;have g:=sA s i f.len f.sz;have a:=UG h f i;have b:=Yp (ju p t s) (Aq h f);refine bM (af:=Yu) rfl rfl ?_;unfold Yu;dsimp only[List.map,aQ,aj,cq];dsimp only[cq]at c a;unfold KQ;by_cases d:oG p=0/\kQ p t.fa t.args=0
 .rw[show(decide (oG p=0)&&decide (kQ p t.fa t.args=0))=true by simp[d.1,d.2]]at c;cases j:lu s with
  |true=>
   rw[aq ⟨d,rfl⟩];rw[j]at g;generalize ju p t s=e at a b⊢;dsimp only[od]at a b;exact gP trivial (eY c g a b) k0;all_goals rfl
  |false=>
   rw[an aB];rw[j]at g;exact gP trivial (bf c g) k0;all_goals rfl
 .rw[show(decide (oG p=0)&&decide (kQ p t.fa t.args=0))=false by rw[Me,ug,ug];exact Q2.1 d]at c;rw[an λe=>d e.1];exact gP trivial c k0;all_goals rfl
def Qv(x:XS):Co x=(if Ca x=true then([.bool false,.slice false (aA x.rd),.slice false (aA x.wr)],0)else(Rf,if x.failed=true then 9 else 2)):=by
 unfold Co Ca;cases x.failed with
 |true=>simp
 |false=>
  by_cases c:64<x.rd.length\/64<x.wr.length
  .rw[an (by decide),aq c,an (by simp;omega)];rfl
  .rw[an (by decide),an c,aq (by simp;omega)]
def Uz{p:Pc}{t:Tx}(j:jM p)(i:sX t)(h:wA p {t with eT:=vq}){s:List Pr}(m:ka s)(k:Bool):PS tb 33 [.agg (cq p),.slice t.fa (bF t.args),.slice k (bm s)] (.agg (rH (oB p t s))):=by
 have n:PS tb 81 [.agg (cq p)] (.int .i64 (oG p)):=j9 h.ck;have o:PS tb 80 [.agg (cq p),.slice t.fa (bF t.args)] (.int .i64 (kQ p t.fa t.args)):=j9 h.ar;have f:=IZ p t.fa t.args n o;have b:=O7 h m k;refine bM (af:=Yc) rfl rfl ?_;unfold Yc;dsimp only[List.map,aQ,aj,cq];dsimp only[cq]at b;unfold oB;by_cases c:oG p=0/\kQ p t.fa t.args=0
 .rw[show(decide (oG p=0)&&decide (kQ p t.fa t.args=0))=true by simp[c.1,c.2]]at f;obtain⟨q,r,u⟩:=Ij j i.al i.vs c.2;have a:=Em p t.fa t.args j q r i.vs f;rw[Qv]at a;rw[aq c];by_cases l:Ca (lB p t.args)=true
  .rw[aq l]at a⊢;dsimp only[cq]at a;dsimp only[rH];exact gP trivial a k0;all_goals rfl
  .rw[an l]at a⊢;dsimp only[cq]at a;unfold KQ at b;by_cases g:lu s=true
   .rw[aq ⟨c,g⟩]at b;rw[aq g];dsimp only[rH]at b⊢;cases d:(lB p t.args).failed with
    |true=>
     rw[d,aq rfl]at a;exact gP trivial (bf a b) k0;all_goals rfl
    |false=>
     rw[d,an (by decide)]at a;exact gP trivial (bf a b) k0;all_goals rfl
   .rw[an λe=>g e.2]at b;rw[an g];dsimp only[rH,aA,List.map]at b⊢;cases d:(lB p t.args).failed with
    |true=>
     rw[d,aq rfl]at a;exact gP trivial (bf a b) k0;all_goals rfl
    |false=>
     rw[d,an (by decide)]at a;exact gP trivial (bf a b) k0;all_goals rfl
 .rw[show(decide (oG p=0)&&decide (kQ p t.fa t.args=0))=false by rw[Me,ug,ug];exact Q2.1 c]at f;have a:=Eg p t.fa t.args f;unfold KQ at b;rw[an λe=>c e.1]at b;rw[an c];dsimp only[cq]at a;dsimp only[rH,aA,List.map]at b⊢;exact gP trivial (bf a b) k0;all_goals rfl
end
section
open Go Go.Dv
def Q3(p:Pc)(t:Tx):PS tb 38 [.agg (cq p),.eN [.str t.proc]] (.bool (sV t p)):=by
 refine bM (af:=ZA) rfl rfl ?_;unfold ZA;dsimp only[List.map,aQ,aj,cq];refine gN trivial (k1 ?_);all_goals simp[sV]
def Ks{a:List Pc}(b:Bool)(t:Tx)(j:a.length<=1048576)(e:∀p∈a,jM p)(k:∀p∈a,CW p=p):PS tb 13 [.slice b (fY a),.str t.proc] (match a.find? (sV t)with
  |some p=>.tuple [.agg (cq p),.bool true]
  |none=>.tuple [.agg Z0,.bool false]):=by
 obtain⟨n,g,c⟩:=Dg a b 38 [.eN [.str t.proc]] (sV t) j λp _=>Q3 p t
 refine bM (af:=Yq) rfl rfl ?_;unfold Yq;dsimp only[List.map,aQ,aj];rcases c with⟨rfl,c⟩|⟨i,h,rfl,c⟩
 .rw[c];exact gP @fH g k0;all_goals rfl
 .rw[c];have l:¬(i:Int)<0:=ae;have m:(0:Int)<=i:=ae;have o:=wB a i h;have d:=List.getElem_mem h;have f:=TX a[i] (e _ d).pl (e _ d).bz (e _ d).bo;rw[k _ d]at f;dsimp only[cq]at f⊢;exact gP (eY @fH l m o) (bf g f) k0;all_goals rfl
def ON{a:List Pc}(f:∀p∈a,jM p){s:List Pr}(g:ka s){t:Tx}(b:sX t):sX (c8 a s t):=by
 unfold c8;cases e:a.find? (sV t)with
 |none=>exact b
 |some p=>
  have c:=f p (List.mem_of_find?_eq_some e);refine⟨b.al,b.vs,?_⟩
  show Fc (oB p t s)
  unfold oB;split
  .split
   .rename_i h;simp only[Ca,aO,cp]at h;refine⟨?_,?_⟩
    .show(lB p t.args).rd.length<=_;omega
    .show(lB p t.args).wr.length<=_;omega
   .split
    .have i:=My p c {t with eT:=vq} ⟨b.al,b.vs,Nat.zero_le _,Nat.zero_le _⟩;have d:=Aq i g;refine⟨?_,?_⟩
     .show(ju p t s).reads.length<=_;have:=d.rl;unfold ju;omega
     .show(ju p t s).cm.length<=_;have:=d.pl;unfold ju;omega
    .exact⟨Nat.zero_le _,Nat.zero_le _⟩
  .exact⟨Nat.zero_le _,Nat.zero_le _⟩
def AW(L:List Tx)(t:Tx)(F:Ft):fK L++[[.int .i64 t.id,.str t.proc,.slice t.fa (bF t.args),.bool F.all,.slice F.br (aA F.r),.slice F.bw (aA F.w),.int .i64 t.X8]]=fK (L++[{t with eT:=F}]):=by simp[fK,qJ]
def EU(a b c d e f g:PV):bV 7 [[a,b,c,d,e,f,g]]=true:=rfl
def J5{a:List Pc}{s:List Pr}{l:List Tx}(b c d:Bool)(D:a.length<=1048576)(B:∀p∈a,jM p)(E:∀p∈a,CW p=p)(G:ka s)(J:l.length<=1048576)(H:∀t∈l,sX t):PS tb 11 [.slice b (fY a),.slice c (bm s),.slice d (fK l)] (.slice false (fK (l.map (c8 a s)))):=by
 refine bM (af:=YR) rfl rfl ?_;unfold YR;dsimp only[List.map,aQ,aj];refine gN @eJ (k1 ?_);refine bU (λj C=>∃(i q:Nat),i+j=l.length/\C=⟨[(0,.p (.slice b (fY a))),(1,.p (.slice c (bm s))),(2,.p (.slice d (fK l))),(7,.ref 0 i 0 i),(8,.p (.int .i64 i))],[(0,.row false 7 (fK ((l.take i).map (c8 a s))))],1,[0]⟩) ?_ l.length _ ⟨0,0,ae,rfl⟩;rintro j C ⟨i,q,K,rfl⟩;refine bq N8.eq_1 ?_;rcases cK i l.length with k|k
 .have o:(i:Int)<l.length:=ae;have w:(0:Int)<=i:=ae;have x:=ti l i k;have m:=H _ (List.getElem_mem k);have r:=Ks b l[i] D B E;have u:(l.take i).map (c8 a s)++[c8 a s l[i]]=(l.take (i+1)).map (c8 a s):=by
   rw[List.take_succ_eq_append_getElem k,List.map_append];rfl
  have g:(fK ((l.take i).map (c8 a s))).length=i:=by rw[eJ,List.length_map,List.length_take];omega
  have y:(i+1)*112<=ak:=by simp only[ak];omega
  have z:i+1<=ak:=by simp only[ak];omega
  unfold c8 at u;cases e:a.find? (sV l[i])with
  |none=>
   rw[e]at r u;have f:=AW ((l.take i).map (c8 a s)) l[i] l[i].eT;have n:(l.take i).map (c8 a s)++[l[i]]=(l.take (i+1)).map (c8 a s):=u;rw[show({l[i]with eT:=l[i].eT}:Tx)=l[i]from rfl,n]at f;repeat'(first|exact r|(simp(disch:=omega) only[go_sem,seval,reduceCtorEq,o,w,x,eJ,y,z,g,f,EU])|with_reducible exact Ev.mk|apply gb|((first|apply b5|apply bO)<;>intro h I<;>(simp(disch:=omega) only[go_sem,seval,reduceCtorEq,o,w,x,eJ,y,z,g,f,EU,h])<;>clear h))
   exact LI.next (m':=j-1) ae ⟨i+1,0,ae,rfl⟩
  |some p=>
   rw[e]at r u;have v:=B p (List.mem_of_find?_eq_some e);have hP:=Uz v m (My p v {l[i]with eT:=vq} ⟨m.al,m.vs,Nat.zero_le _,Nat.zero_le _⟩) G c;have f:=AW ((l.take i).map (c8 a s)) l[i] (oB p l[i] s);have n:(l.take i).map (c8 a s)++[{l[i]with eT:=oB p l[i] s}]=(l.take (i+1)).map (c8 a s):=u;rw[n]at f;generalize oB p l[i] s=F at hP f;dsimp only[cq,rH]at r hP;repeat'(first|exact r|exact hP|(simp(disch:=omega) only[go_sem,seval,reduceCtorEq,o,w,x,eJ,y,z,g,f,EU])|with_reducible exact Ev.mk|apply gb|((first|apply b5|apply bO)<;>intro h I<;>(simp(disch:=omega) only[go_sem,seval,reduceCtorEq,o,w,x,eJ,y,z,g,f,EU,h])<;>clear h))
   exact LI.next (m':=j-1) ae ⟨i+1,0,ae,rfl⟩
 .have o:¬(i:Int)<l.length:=ae;obtain rfl:i=l.length:=ae;rw[List.take_length];have g:(fK (l.map (c8 a s))).length=l.length:=by rw[eJ,List.length_map]
  have A:(fK (l.map (c8 a s))).take l.length=fK (l.map (c8 a s)):=List.take_of_length_le ae;exact gN (eY o g A @eJ) k0
def M4(l:List ByteArray)(b:Bool)(k:ByteArray)(p:l.length<=68719476736):PS tb 14 [.slice b (aA l),.str k] (.bool (hasB l k)):=by
 refine bM (af:=X4) rfl rfl ?_;unfold X4;dsimp only[List.map,aQ,aj];refine gN trivial (k1 ?_);refine bU (λj g=>∃(i q:Nat),i+j=l.length/\(∀x∈l.take i,x≠k)/\g=⟨[(0,.p (.slice b (aA l))),(1,.p (.str k)),(5,.p (.int .i64 i))],[],q,[0]⟩) ?_ l.length _ ⟨0,_,ae,aB,rfl⟩;rintro j g ⟨i,q,r,e,rfl⟩;refine bq N0.eq_1 ?_;rcases cK i l.length with c|c
 .have a:(i:Int)<l.length:=ae;have m:(0:Int)<=i:=ae;have n:=jN l i c;by_cases d:l[i]=k
  .have f:hasB l k=true:=gp.2 (d▸List.getElem_mem c);rw[f];exact gN (dM a m n @aE (aZ d)) k0
  .refine gN (dM a m n @aE d) (k1 ?_);refine LI.next (m':=j-1) ae ⟨i+1,_,ae,λx o=>?_,rfl⟩;rw[List.take_succ_eq_append_getElem c,List.mem_append,List.mem_singleton]at o;rcases o with h|rfl
   .exact e x h
   .exact d
 .have a:¬(i:Int)<l.length:=ae;rw[List.take_of_length_le c]at e;have f:hasB l k=false:=wG.2 λh=>e k h rfl
  rw[f];exact gN (bf a @aE) k0
end
end Go.Dv.Tryz
