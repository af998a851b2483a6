/- Lemmas for the law of this claim. -/
import Derived.Test.YtcphhjkcgikdgaaGreatDoorP34
import Derived.Test.YtcphhjkcgikdgaaGreatDoorP33
import Derived.Test.YtcphhjkcgikdgaaGreatDoorP26
import Derived.Test.YtcphhjkcgikdgaaGreatDoorP29
set_option linter.all false
set_option maxRecDepth 100000
set_option maxHeartbeats 8000000
namespace Go.Dv.Tryz
section
open Go Go.Dv
def o8(c:Int)(a b:bj):Prop:=1<=c/\c<=8/\(c≠8->Ar a)/\(c=3\/c=6->Ar b)
section
variable(name:ByteArray)(max:Int)(a b:bj)(f:Bool)(body:List cl)(g:Bool)(els:List cl)
def zr{P q:Prop}(k:q)(h:Bx q->P:=by
 intro k;refine mr (af:=TQ) rfl rfl ?_;unfold TQ;dsimp only[List.map,aI,ai];exact k.q):P:=h ⟨k⟩
def Qn(o:name.size<=1048576)(p:a.ok)(c:a.sz<=1048576)(q:b.ok)(i:b.sz<=1048576)(j:body.length<=1099511627776)(k:els.length<=1099511627776)(d:Int):∃r:Int,PS tb 199 [.agg (qy 1 name max a b f body g els),.int .i64 d] (.int .i64 r)/\(r=0->o8 1 a b):=by
 have m:PS tb 228 [.int .i64 1] (.tuple [.agg [.bool true,.bool true,.bool false,.bool false,.bool false,.bool false],.bool true]):=nJ 1;have t:a.xs.length<=1048576:=by have:=bQ a.xs;rw[bj.gj]at c;omega
 have u:b.xs.length<=1048576:=by have:=bQ b.xs;rw[bj.gj]at i;omega
 obtain⟨s,n,_⟩:=mE 1 name max a b f body g els t u true true false false false false j k;have v:=vA name o;obtain⟨x,l,w⟩:=j8 a p c;refine zr ?_;cases s with
 |false=>
  refine gP trivial (bA m n) (k1 ?_);all_goals exact⟨⟨_,by intro h;first|omega|contradiction⟩,rfl⟩
 |true=>
  repeat'(first|exact m|exact n|exact v|exact l|(simp(disch:=omega) only[go_sem,seval,reduceCtorEq])|with_reducible exact Ev.mk|apply cT|((first|apply aY|apply aQ)<;>intro e q<;>(simp(disch:=omega) only[go_sem,seval,reduceCtorEq,e])<;>clear e))
  all_goals first
   |exact⟨⟨_,by intro h;first|omega|contradiction⟩,rfl⟩
   |exact⟨⟨_,λ_=>⟨ae,ae,λ_=>w ae,λh=>ae⟩⟩,rfl⟩
def Pt(o:name.size<=1048576)(p:a.ok)(c:a.sz<=1048576)(q:b.ok)(i:b.sz<=1048576)(j:body.length<=1099511627776)(k:els.length<=1099511627776)(d:Int):∃r:Int,PS tb 199 [.agg (qy 2 name max a b f body g els),.int .i64 d] (.int .i64 r)/\(r=0->o8 2 a b):=by
 have m:PS tb 228 [.int .i64 2] (.tuple [.agg [.bool true,.bool true,.bool false,.bool false,.bool false,.bool false],.bool true]):=nJ 2;have t:a.xs.length<=1048576:=by have:=bQ a.xs;rw[bj.gj]at c;omega
 have u:b.xs.length<=1048576:=by have:=bQ b.xs;rw[bj.gj]at i;omega
 obtain⟨s,n,_⟩:=mE 2 name max a b f body g els t u true true false false false false j k;have v:=vA name o;obtain⟨x,l,w⟩:=j8 a p c;refine zr ?_;cases s with
 |false=>
  refine gP trivial (bA m n) (k1 ?_);all_goals exact⟨⟨_,by intro h;first|omega|contradiction⟩,rfl⟩
 |true=>
  repeat'(first|exact m|exact n|exact v|exact l|(simp(disch:=omega) only[go_sem,seval,reduceCtorEq])|with_reducible exact Ev.mk|apply cT|((first|apply aY|apply aQ)<;>intro e q<;>(simp(disch:=omega) only[go_sem,seval,reduceCtorEq,e])<;>clear e))
  all_goals first
   |exact⟨⟨_,by intro h;first|omega|contradiction⟩,rfl⟩
   |exact⟨⟨_,λ_=>⟨ae,ae,λ_=>w ae,λh=>ae⟩⟩,rfl⟩
def Ru(x:name.size<=1048576)(q:a.ok)(c:a.sz<=1048576)(n:b.ok)(e:b.sz<=1048576)(j:body.length<=1099511627776)(k:els.length<=1099511627776)(d:Int):∃r:Int,PS tb 199 [.agg (qy 3 name max a b f body g els),.int .i64 d] (.int .i64 r)/\(r=0->o8 3 a b):=by
 have o:PS tb 228 [.int .i64 3] (.tuple [.agg [.bool false,.bool true,.bool true,.bool false,.bool false,.bool false],.bool true]):=nJ 3;have t:a.xs.length<=1048576:=by have:=bQ a.xs;rw[bj.gj]at c;omega
 have u:b.xs.length<=1048576:=by have:=bQ b.xs;rw[bj.gj]at e;omega
 obtain⟨s,p,_⟩:=mE 3 name max a b f body g els t u false true true false false false j k;obtain⟨y,l,v⟩:=j8 a q c;obtain⟨z,m,w⟩:=j8 b n e;refine zr ?_;cases s with
 |false=>
  refine gP trivial (bA o p) (k1 ?_);all_goals exact⟨⟨_,by intro h;first|omega|contradiction⟩,rfl⟩
 |true=>
  repeat'(first|exact o|exact p|exact l|exact m|(simp(disch:=omega) only[go_sem,seval,reduceCtorEq])|with_reducible exact Ev.mk|apply cT|((first|apply aY|apply aQ)<;>intro i n<;>(simp(disch:=omega) only[go_sem,seval,reduceCtorEq,i])<;>clear i))
  all_goals first
   |exact⟨⟨_,by intro h;first|omega|contradiction⟩,rfl⟩
   |exact⟨⟨_,λ_=>⟨ae,ae,λ_=>v ae,λ_=>w ae⟩⟩,rfl⟩
def PE(v:name.size<=1048576)(o:a.ok)(c:a.sz<=1048576)(p:b.ok)(i:b.sz<=1048576)(j:body.length<=1099511627776)(k:els.length<=1099511627776)(d:Int):∃r:Int,PS tb 199 [.agg (qy 4 name max a b f body g els),.int .i64 d] (.int .i64 r)/\(r=0->o8 4 a b):=by
 have m:PS tb 228 [.int .i64 4] (.tuple [.agg [.bool false,.bool true,.bool false,.bool false,.bool false,.bool false],.bool true]):=nJ 4;have q:a.xs.length<=1048576:=by have:=bQ a.xs;rw[bj.gj]at c;omega
 have t:b.xs.length<=1048576:=by have:=bQ b.xs;rw[bj.gj]at i;omega
 obtain⟨s,n,_⟩:=mE 4 name max a b f body g els q t false true false false false false j k;obtain⟨w,l,u⟩:=j8 a o c;refine zr ?_;cases s with
 |false=>
  refine gP trivial (bA m n) (k1 ?_);all_goals exact⟨⟨_,by intro h;first|omega|contradiction⟩,rfl⟩
 |true=>
  repeat'(first|exact m|exact n|exact l|(simp(disch:=omega) only[go_sem,seval,reduceCtorEq])|with_reducible exact Ev.mk|apply cT|((first|apply aY|apply aQ)<;>intro e p<;>(simp(disch:=omega) only[go_sem,seval,reduceCtorEq,e])<;>clear e))
  all_goals first
   |exact⟨⟨_,by intro h;first|omega|contradiction⟩,rfl⟩
   |exact⟨⟨_,λ_=>⟨ae,ae,λ_=>u ae,λh=>ae⟩⟩,rfl⟩
def QF(v:name.size<=1048576)(o:a.ok)(c:a.sz<=1048576)(p:b.ok)(i:b.sz<=1048576)(j:body.length<=1099511627776)(k:els.length<=1099511627776)(d:Int):∃r:Int,PS tb 199 [.agg (qy 5 name max a b f body g els),.int .i64 d] (.int .i64 r)/\(r=0->o8 5 a b):=by
 have m:PS tb 228 [.int .i64 5] (.tuple [.agg [.bool false,.bool true,.bool false,.bool false,.bool true,.bool true],.bool true]):=nJ 5;have q:a.xs.length<=1048576:=by have:=bQ a.xs;rw[bj.gj]at c;omega
 have t:b.xs.length<=1048576:=by have:=bQ b.xs;rw[bj.gj]at i;omega
 obtain⟨s,n,_⟩:=mE 5 name max a b f body g els q t false true false false true true j k;obtain⟨w,l,u⟩:=j8 a o c;refine zr ?_;cases s with
 |false=>
  refine gP trivial (bA m n) (k1 ?_);all_goals exact⟨⟨_,by intro h;first|omega|contradiction⟩,rfl⟩
 |true=>
  repeat'(first|exact m|exact n|exact l|(simp(disch:=omega) only[go_sem,seval,reduceCtorEq])|with_reducible exact Ev.mk|apply cT|((first|apply aY|apply aQ)<;>intro e p<;>(simp(disch:=omega) only[go_sem,seval,reduceCtorEq,e])<;>clear e))
  all_goals first
   |exact⟨⟨_,by intro h;first|omega|contradiction⟩,rfl⟩
   |exact⟨⟨_,λ_=>⟨ae,ae,λ_=>u ae,λh=>ae⟩⟩,rfl⟩
def QV(q:name.size<=1048576)(t:a.ok)(c:a.sz<=1048576)(n:b.ok)(e:b.sz<=1048576)(j:body.length<=1099511627776)(k:els.length<=1099511627776)(d:Int):∃r:Int,PS tb 199 [.agg (qy 6 name max a b f body g els),.int .i64 d] (.int .i64 r)/\(r=0->o8 6 a b):=by
 have o:PS tb 228 [.int .i64 6] (.tuple [.agg [.bool true,.bool true,.bool true,.bool true,.bool true,.bool false],.bool true]):=nJ 6;have u:a.xs.length<=1048576:=by have:=bQ a.xs;rw[bj.gj]at c;omega
 have v:b.xs.length<=1048576:=by have:=bQ b.xs;rw[bj.gj]at e;omega
 obtain⟨s,p,_⟩:=mE 6 name max a b f body g els u v true true true true true false j k;have w:=vA name q;obtain⟨z,l,x⟩:=j8 a t c;obtain⟨A,m,y⟩:=j8 b n e;refine zr ?_;cases s with
 |false=>
  refine gP trivial (bA o p) (k1 ?_);all_goals exact⟨⟨_,by intro h;first|omega|contradiction⟩,rfl⟩
 |true=>
  repeat'(first|exact o|exact p|exact w|exact l|exact m|(simp(disch:=omega) only[go_sem,seval,reduceCtorEq])|with_reducible exact Ev.mk|apply cT|((first|apply aY|apply aQ)<;>intro i n<;>(simp(disch:=omega) only[go_sem,seval,reduceCtorEq,i])<;>clear i))
  all_goals first
   |exact⟨⟨_,by intro h;first|omega|contradiction⟩,rfl⟩
   |exact⟨⟨_,λ_=>⟨ae,ae,λ_=>x ae,λ_=>y ae⟩⟩,rfl⟩
def Ra(v:name.size<=1048576)(o:a.ok)(c:a.sz<=1048576)(p:b.ok)(i:b.sz<=1048576)(j:body.length<=1099511627776)(k:els.length<=1099511627776)(d:Int):∃r:Int,PS tb 199 [.agg (qy 7 name max a b f body g els),.int .i64 d] (.int .i64 r)/\(r=0->o8 7 a b):=by
 have m:PS tb 228 [.int .i64 7] (.tuple [.agg [.bool false,.bool true,.bool false,.bool false,.bool false,.bool false],.bool true]):=nJ 7;have q:a.xs.length<=1048576:=by have:=bQ a.xs;rw[bj.gj]at c;omega
 have t:b.xs.length<=1048576:=by have:=bQ b.xs;rw[bj.gj]at i;omega
 obtain⟨s,n,_⟩:=mE 7 name max a b f body g els q t false true false false false false j k;obtain⟨w,l,u⟩:=j8 a o c;refine zr ?_;cases s with
 |false=>
  refine gP trivial (bA m n) (k1 ?_);all_goals exact⟨⟨_,by intro h;first|omega|contradiction⟩,rfl⟩
 |true=>
  repeat'(first|exact m|exact n|exact l|(simp(disch:=omega) only[go_sem,seval,reduceCtorEq])|with_reducible exact Ev.mk|apply cT|((first|apply aY|apply aQ)<;>intro e p<;>(simp(disch:=omega) only[go_sem,seval,reduceCtorEq,e])<;>clear e))
  all_goals first
   |exact⟨⟨_,by intro h;first|omega|contradiction⟩,rfl⟩
   |exact⟨⟨_,λ_=>⟨ae,ae,λ_=>u ae,λh=>ae⟩⟩,rfl⟩
def Rv(o:name.size<=1048576)(p:a.ok)(c:a.sz<=1048576)(q:b.ok)(e:b.sz<=1048576)(i:body.length<=1099511627776)(j:els.length<=1099511627776)(d:Int):∃r:Int,PS tb 199 [.agg (qy 8 name max a b f body g els),.int .i64 d] (.int .i64 r)/\(r=0->o8 8 a b):=by
 have k:PS tb 228 [.int .i64 8] (.tuple [.agg [.bool false,.bool false,.bool false,.bool true,.bool false,.bool false],.bool true]):=nJ 8;have m:a.xs.length<=1048576:=by have:=bQ a.xs;rw[bj.gj]at c;omega
 have n:b.xs.length<=1048576:=by have:=bQ b.xs;rw[bj.gj]at e;omega
 obtain⟨s,l,_⟩:=mE 8 name max a b f body g els m n false false false true false false i j;refine zr ?_;cases s with
 |false=>
  refine gP trivial (bA k l) (k1 ?_);all_goals exact⟨⟨_,by intro h;first|omega|contradiction⟩,rfl⟩
 |true=>
  refine gP trivial (bA k l) (k2 ?_ ?_);all_goals first
   |exact⟨⟨_,by intro h;first|omega|contradiction⟩,rfl⟩
   |exact⟨⟨_,λ_=>⟨ae,ae,λh=>absurd rfl h,λh=>ae⟩⟩,rfl⟩
def QL(c:Int)(i:¬(1<=c/\c<=8))(o:name.size<=1048576)(p:a.ok)(j:a.sz<=1048576)(q:b.ok)(k:b.sz<=1048576)(l:body.length<=1099511627776)(m:els.length<=1099511627776)(d:Int):∃r:Int,PS tb 199 [.agg (qy c name max a b f body g els),.int .i64 d] (.int .i64 r)/\(r=0->o8 c a b):=by
 have n:PS tb 228 [.int .i64 c] (.tuple [.agg [.bool false,.bool false,.bool false,.bool false,.bool false,.bool false],.bool false]):=by
  have h:=nJ c;have e:Vd c=([.bool false,.bool false,.bool false,.bool false,.bool false,.bool false],false):=by unfold Vd;rw[ak ae,ak ae,ak ae,ak ae,ak ae,ak ae]
  rw[e]at h;exact h
 refine zr ?_;refine gP trivial n (k1 ?_);all_goals exact⟨⟨_,by intro h;first|omega|contradiction⟩,rfl⟩
def PU(j:Int)(k:name.size<=1048576)(l:a.ok)(c:a.sz<=1048576)(m:b.ok)(e:b.sz<=1048576)(h:body.length<=1099511627776)(i:els.length<=1099511627776)(d:Int):∃r:Int,PS tb 199 [.agg (qy j name max a b f body g els),.int .i64 d] (.int .i64 r)/\(r=0->o8 j a b):=by
 by_cases n:j=1
 .subst n;exact Qn name max a b f body g els k l c m e h i d
 by_cases o:j=2
 .subst o;exact Pt name max a b f body g els k l c m e h i d
 by_cases p:j=3
 .subst p;exact Ru name max a b f body g els k l c m e h i d
 by_cases q:j=4
 .subst q;exact PE name max a b f body g els k l c m e h i d
 by_cases s:j=5
 .subst s;exact QF name max a b f body g els k l c m e h i d
 by_cases t:j=6
 .subst t;exact QV name max a b f body g els k l c m e h i d
 by_cases u:j=7
 .subst u;exact Ra name max a b f body g els k l c m e h i d
 by_cases v:j=8
 .subst v;exact Rv name max a b f body g els k l c m e h i d
 exact QL name max a b f body g els j ae k l c m e h i d
end
end
section
open Go Go.Dv
structure GH(H:Heap)(t:Nat):Prop where
 tp:nb H=t
 a:∀c,t<=c->ag H c=none
 b:∀c,t<=c->aD c H=H
 l:∀c,t<=c->de c H=true
def IF{i:Nat}:∀{H:Heap},ag H i=none->mM H i=H
 |[],_=>rfl
 |(k,b)::r,h=>by
   rw[aw]at h;by_cases e:k=i
   .rw[aq e]at h;cases h
   .rw[ak e]at h;simp[mM,e,IF h]
section
variable{H:Heap}{t:Nat}
def GH.no(h:GH H t):ag H t=none:=h.a t (Nat.le_refl _)
def GH.b0(h:GH H t):aD t H=H:=h.b t (Nat.le_refl _)
def GH.l0(h:GH H t):de t H=true:=h.l t (Nat.le_refl _)
def GH.b1(h:GH H t):aD (t+1) H=H:=h.b (t+1) (iU _)
def GH.l1(h:GH H t):de (t+1) H=true:=h.l (t+1) (iU _)
def GH.fz(h:GH H t):mM H t=H:=IF h.no
def GH.cons{b:bq}(h:GH H t)(d:b.below (t+1)=true:=by rfl):GH ((t,b)::H) (t+1):=
 ⟨by simp only[nb,h.tp];exact Nat.max_eq_left (iU t),λc a=>by rw[aw,ak ae];exact h.a c ae,λc a=>by rw[aD,aq ae,h.b c ae],
  λc a=>by simp only[de,aL];exact⟨bq.fM a d,h.l c ae⟩⟩
def gh0:GH [] 0:=⟨rfl,λ_ _=>rfl,λ_ _=>rfl,λ_ _=>rfl⟩
end
def Gp(t:Nat):max (t+1) t=t+1:=Nat.max_eq_left (iU t)
def Tp(y x:Pm):∃r,PS tb 226 [.agg [.str y.name,.int .i64 y.ty],.dT [.str x.name,.int .i64 x.ty]] (.bool r)/\True:=by
 refine uI (af:=a226) rfl rfl ?_;unfold a226;dsimp only[List.map,aI,ai];refine gN trivial (k1 ?_);all_goals exact⟨⟨_,trivial⟩,rfl⟩
def LP(l:List Pm)(b:Bool)(f:FuncId)(a:List PV)(q:l.length<=1048576)(o:∀p∈l,∃r,PS tb f (.agg [.str p.name,.int .i64 p.ty]::a) (.bool r)/\True)(e:bP (aS [] 5) (a.map aI)=some a:=by rfl):
  ∃n:Int,PS tb 244 [.slice b (im l),.func f a] (.int .i64 n)/\True:=by
 refine mr (af:=T4) rfl rfl ?_;unfold T4;dsimp only[List.map,aI,ai];refine gN @cN (k1 ?_);refine bL (λj g=>∃i:Nat,i+j=l.length/\g=⟨[(0,.p (.slice b (im l))),(1,.p (.func f a)),(7,.p (.int .i64 l.length)),(8,.p (.int .i64 i))],[],0,[0]⟩) ?_ l.length _ ⟨0,ae,rfl⟩;rintro j g ⟨i,s,rfl⟩;refine aH KO.eq_1 ?_;rcases bS i l.length with c|c
 .have d:(i:Int)<l.length:=ae;have h:(0:Int)<=i:=ae;have k:=n8 l i c;obtain⟨r,m,_⟩:=o _ (List.getElem_mem c);cases r with
  |true=>
   refine gP (dP d h @cN k e) m (k1 ?_);exact⟨⟨_,trivial⟩,rfl⟩
  |false=>
   refine gP (dP d h @cN k e) m (k1 ?_);exact LI.next (m':=j-1) ae ⟨i+1,ae,rfl⟩
 .have d:¬(i:Int)<l.length:=ae;refine gN d (k1 ?_);exact⟨⟨_,trivial⟩,rfl⟩
def E6(l:List Pm)(b:Bool)(f:FuncId)(a:List PV)(d:l.length<=1048576)(e:∀p∈l,∃r,PS tb f (.agg [.str p.name,.int .i64 p.ty]::a) (.bool r)/\True)(c:bP (aS [] 5) (a.map aI)=some a:=by rfl):
  ∃r,PS tb 225 [.slice b (im l),.func f a] (.bool r)/\True:=by
 obtain⟨n,g,_⟩:=LP l b f a d e c;refine uI (af:=RL) rfl rfl ?_;unfold RL;dsimp only[List.map,aI,ai];refine gP c g (k1 ?_);exact⟨⟨_,trivial⟩,rfl⟩
def xL(l:List Pm):bT 2 (im l)=true:=by simp[bT,im,LV]
def BE(l:List Pm)(n:Nat):(im l).take n=im (l.take n):=by simp[im]
def Mr(l:List Pm)(b:Bool)(v:l.length<=1048576)(s:∀p∈l,p.name.size<=1048576):∃n:Int,PS tb 196 [.slice b (im l)] (.int .i64 n)/\True:=by
 refine mr (af:=a196) rfl rfl ?_;unfold a196;dsimp only[List.map,aI,ai];by_cases g:(6:Int)<l.length
 .refine gN (bA @cN g) (k1 ?_);exact⟨⟨_,trivial⟩,rfl⟩
 refine gN (bA @cN g) (k1 ?_);refine bL (λj h=>∃(i:Nat) (H:Heap) (t:Nat),i+j=l.length/\GH H t/\h=⟨[(0,.p (.slice b (im l))),(8,.p (.slice b (im l))),(9,.p (.int .i64 l.length)),(10,.p (.int .i64 i))],H,t,[0]⟩) ?_ l.length _ ⟨0,[],0,ae,gh0,rfl⟩;rintro j h ⟨i,H,t,w,a,rfl⟩;refine aH Ln.eq_1 ?_;rcases bS i l.length with c|c
 .have e:(i:Int)<l.length:=ae;have k:(0:Int)<=i:=ae;have m:=n8 l i c;have f:=vA l[i].name (s _ (List.getElem_mem c));obtain⟨r,u,_⟩:=E6 (l.take i) false 226 [.dT [.str l[i].name,.int .i64 l[i].ty]] (by rw[List.length_take];omega) λp _=>Tp p l[i]
  have o:¬(i:Int)=l.length:=ae;have q:(i:Int)<=l.length:=ae;repeat'(first|exact f|exact u|(simp(disch:=omega) only[go_sem,seval,reduceCtorEq,e,k,o,q,xL,Bool.and_false,cN,m,a.tp,a.no,a.b0,a.l0,a.b1,a.l1,a.fz,Gp,BE])|with_reducible exact Ev.mk|apply cT|((first|apply aY|apply aQ)<;>intro d x<;>(simp(disch:=omega) only[go_sem,seval,reduceCtorEq,e,k,o,q,xL,Bool.and_false,cN,m,a.tp,a.no,a.b0,a.l0,a.b1,a.l1,a.fz,Gp,BE,d])<;>clear d))
  all_goals first
   |exact⟨⟨_,trivial⟩,rfl⟩
   |exact LI.next (m':=j-1) ae ⟨i+1,_,_,ae,a.cons,rfl⟩
 .have e:¬(i:Int)<l.length:=ae;refine gN (fW e a.tp a.b0 a.l0) (k1 ?_);exact⟨⟨_,trivial⟩,rfl⟩
end
section
open Go Go.Dv
mutual
def Jm:bj->Nat->Nat
 | .mk _ _ _ _ a,n=>if n=0 then 0 else vN a (n-1)
def vN:List bj->Nat->Nat
 |[],n=>n
 |e::r,n=>vN r (Jm e n)
end
mutual
theorem HJ(e:bj)(n:Nat):Jm e n<=n:=by
 cases e with
 |mk c m s f a=>
  rw[Jm];split
  .omega
  .have:=CB a (n-1);omega
theorem CB(l:List bj)(n:Nat):vN l n<=n:=by
 cases l with
 |nil=>rw[vN];exact Nat.le_refl _
 |cons e r=>
  rw[vN];exact ep (CB r _) (HJ e n)
end
def NX(e:bj)(n:Nat):Jm e n=if n=0 then 0 else vN e.xs (n-1):=by cases e;simp only[Jm,bj.xs]
structure sE(b:Nat)(L:Heap)(nx:Nat):Prop where
 ge:b<=nx
 ba:∀c,nx<=c->aD c L=L
 al:∀c,nx<=c->de c L=true
 no:∀c,nx<=c\/c<b->ag L c=none
def sE.cons{b:Nat}{L:Heap}{nx:Nat}{k:bq}(h:sE b L nx)(d:k.below (nx+1)=true:=by rfl):sE b ((nx,k)::L) (nx+1):=by
 have e:=h.ge;exact⟨ae,λc a=>by rw[aD,aq ae,h.ba c ae],λc a=>by simp only[de,aL];exact⟨bq.fM a d,h.al c ae⟩,
  λc a=>by rw[aw,ak ae];exact h.no c ae⟩
structure WF{σ:Type}(b w:Nat)(Hf:Nat->σ->Heap)(fS fR:DV):Prop where
 wb:w<b
 gw:∀n s,ag (Hf n s) w=some (.var false [.p (.int .i64 n),fS,fR])
 sw:∀n s (m:Nat),aC (Hf n s) w (.var false [.p (.int .i64 m),fS,fR])=Hf m s
 ba:∀n s c,b<=c->aD c (Hf n s)=Hf n s
 al:∀n s c,b<=c->de c (Hf n s)=true
 no:∀n s c,b<=c->ag (Hf n s) c=none
section
variable{σ:Type}{b w:Nat}{Hf:Nat->σ->Heap}{fS fR:DV}{L:Heap}{nx:Nat}
structure WG(b w:Nat)(Hf:Nat->σ->Heap)(fS fR:DV)(L:Heap)(nx:Nat):Prop where
 n0:∀n s,ag (L++Hf n s) nx=none
 n1:∀n s,ag (L++Hf n s) (nx+1)=none
 b0:∀n s,aD nx (L++Hf n s)=L++Hf n s
 l0:∀n s,de nx (L++Hf n s)=true
 b1:∀n s,aD (nx+1) (L++Hf n s)=L++Hf n s
 l1:∀n s,de (nx+1) (L++Hf n s)=true
 gw:∀n s,ag (L++Hf n s) w=some (.var false [.p (.int .i64 n),fS,fR])
 sw:∀n s (m:Nat),aC (L++Hf n s) w (.var false [.p (.int .i64 m),fS,fR])=L++Hf m s
 w0:(nx==w)=false
 w1:(nx+1==w)=false
 w2:w<nx
 w3:w<nx+1
def WF.g(a:WF b w Hf fS fR)(h:sE b L nx):WG b w Hf fS fR L nx:=by
 have c:=h.ge;have d:=a.wb;exact⟨λn s=>by rw[dK (h.no _ (.inl (Nat.le_refl _)))];exact a.no n s _ c,λn s=>by rw[dK (h.no _ (.inl (iU _)))];exact a.no n s _ ae,
  λn s=>by rw[ky,h.ba _ (Nat.le_refl _),a.ba n s _ c],λn s=>by rw[pD,h.al _ (Nat.le_refl _),a.al n s _ c];rfl,
  λn s=>by rw[ky,h.ba _ (iU _),a.ba n s _ ae],λn s=>by rw[pD,h.al _ (iU _),a.al n s _ ae];rfl,
  λn s=>by rw[dK (h.no _ (.inr d)),a.gw],λn s m=>by rw[iO (h.no _ (.inr d)),a.sw],fy.2 ae,fy.2 ae,ae,ae⟩
abbrev xT(e:bj):List DV:=[.p (.int .i64 e.op),.p (.int .i64 e.n),.p (.str e.s),.p (.slice e.f (cn e.xs))]
def Fk(p:WF b w Hf fS fR)(s:σ):∀(k:Nat) (e:bj),e.sz<=k->k<=1048576->∀(L:Heap) (nx n:Nat),sE b L nx->n<=401->
  BS tb 254 [.ptr w 0,.agg (xT e)] (L++Hf n s) nx (.tuple []) (L++Hf (Jm e n) s) nx
 |0,e,f,_=>by cases e;simp[bj.sz]at f
 |k+1,e,f,B=>by
  intro L nx n h C;have g:=p.g h;have q:e.xs.length<=1048576:=by have:=bQ e.xs;rw[bj.gj]at f;omega
  have l:dE e.xs<=k:=by rw[bj.gj]at f;omega
  refine ib (af:=Sa) rfl rfl ?_;unfold Sa;dsimp only[ai];rw[NX];by_cases r:n=0
  .subst r;rw[aq rfl];exact gN (OK g.n0 g.n1 g.b0 g.l0 g.b1 g.l1 g.gw g.sw g.w0 g.w1 g.w2 g.w3) k0
  .rw[ak r];have v:((n:Int)-1)=((n-1:Nat):Int):=ae;have x:¬(n:Int)=0:=ae;refine gN (J4 g.n0 g.n1 g.b0 g.l0 g.b1 g.l1 g.gw g.sw g.w0 g.w1 g.w2 g.w3 v x @bB) (k1 ?_);refine bL (λj t=>∃i a,i+j=e.xs.length/\a<=401/\vN e.xs (n-1)=vN (e.xs.drop i) a/\t=⟨[(0,.ptr w 0),(19,.p (.slice e.f (cn e.xs))),(20,.p (.int .i64 e.xs.length)),(21,.p (.int .i64 i))],(nx,.var false (xT e))::(L++Hf a s),nx+1,[nx+1,nx]⟩) ?_ e.xs.length _ ⟨0,n-1,ae,ae,rfl,rfl⟩;rintro j t ⟨i,a,D,d,y,rfl⟩;refine aH Ks.eq_1 ?_;rw[y];rcases bS i e.xs.length with c|c
   .have m:(i:Int)<e.xs.length:=ae;have z:(0:Int)<=i:=ae;have u:=kT e.xs i c;rw[bj.As]at u;have o:=(h.cons (k:=.var false (xT e))).cons (k:=.var false (xT e.xs[i]));have A:=Fk p s k e.xs[i] (ep (lE (List.getElem_mem c)) l) ae _ _ a o d;rw[List.drop_eq_getElem_cons c,vN];refine gR (DF g.n0 g.n1 g.b0 g.l0 g.b1 g.l1 g.gw g.sw g.w0 g.w1 g.w2 g.w3 m z u @bB) trivial A (k1 ?_);exact LI.next (m':=j-1) ae ⟨i+1,_,ae,ep (HJ e.xs[i] a) d,rfl,rfl⟩
   .have m:¬(i:Int)<e.xs.length:=ae;rw[List.drop_eq_nil_of_le c,vN];exact gN (Fi g.n0 g.n1 g.b0 g.l0 g.b1 g.l1 g.gw g.sw g.w0 g.w1 g.w2 g.w3 m) k0
end
end
section
open Go Go.Dv
section
variable{σ:Type}
def AN(sR:σ->bj->σ)(e:bj)(x:Nat×σ):Nat×σ:=if x.1=0\/O9 e=true then x else(Jm e x.1,sR x.2 e)
abbrev dn(d:Int):Int:=IntKind.i64.wrap (d+1)
mutual
def D7(sS:σ->cl->Int->σ)(sR:σ->bj->σ):cl->Int->Nat×σ->Nat×σ
 | .mk h name max a b f c g e,d,x=>pd sS sR e (dn d) (pd sS sR c (dn d) (AN sR b (AN sR a (x.1-1,sS x.2 (.mk h name max a b f c g e) d))))
def pd(sS:σ->cl->Int->σ)(sR:σ->bj->σ):List cl->Int->Nat×σ->Nat×σ
 |[],_,x=>x
 |s::r,d,x=>if x.1=0 then x else pd sS sR r d (D7 sS sR s d x)
end
structure WC(b w:Nat)(Hf:Nat->σ->Heap)(idS:FuncId)(cS:List DV)(idR:FuncId)(cR:List DV)(Inv:Nat->σ->Prop)(sS:σ->cl->Int->σ)(sR:σ->bj->σ):Prop where
 wf:WF b w Hf (.func idS cS) (.func idR cR)
 mono:∀{n m s},m<=n->Inv n s->Inv m s
 S:∀{L nx},sE b L nx->∀(n:Nat) s (st:cl) (d:Int),st.ok->st.sz<=1048576->n<401->Inv (n+1) s->BS tb idS (.agg st.d::.p (.int .i64 d)::cS) (L++Hf n s) nx (.tuple []) (L++Hf n (sS s st d)) nx
 R:∀{L nx},sE b L nx->∀(n:Nat) s (e:bj),e.ok->e.sz<=1048576->n<=401->0<n->Inv n s->BS tb idR (.agg (xT e)::cR) (L++Hf n s) nx (.tuple []) (L++Hf n (sR s e)) nx
 iS:∀{n s st d},Inv (n+1) s->Inv n (sS s st d)
 iR:∀{n s e},Inv (n+1) s->Inv n (sR s e)
variable{b w:Nat}{Hf:Nat->σ->Heap}{idS:FuncId}{cS:List DV}{idR:FuncId}{cR:List DV}{Inv:Nat->σ->Prop}{sS:σ->cl->Int->σ}{sR:σ->bj->σ}
def Wf(e:bj){n:Nat}(h:n≠0):Jm e n<=n-1:=by rw[NX,ak h];exact CB _ _
def zg(a:WC b w Hf idS cS idR cR Inv sS sR)(e:bj){x:Nat×σ}(h:Inv x.1 x.2):Inv (AN sR e x).1 (AN sR e x).2/\(AN sR e x).1<=x.1:=by
 unfold AN;split
 .exact⟨h,Nat.le_refl _⟩
 .rename_i c;have d:x.1≠0:=λh=>c (.inl h)
  refine⟨a.mono (Wf e d) (a.iR (n:=x.1-1) (by rw[NB ae];exact h)),HJ e _⟩
mutual
theorem Ty(i:WC b w Hf idS cS idR cR Inv sS sR)(s:cl)(d:Int)(x:Nat×σ)(q:x.1≠0)(h:Inv x.1 x.2):Inv (D7 sS sR s d x).1 (D7 sS sR s d x).2/\(D7 sS sR s d x).1<=x.1-1:=by
 cases s with
 |mk j name max a b f c g e=>
  rw[D7];have k:Inv (x.1-1) (sS x.2 (.mk j name max a b f c g e) d):=i.iS (by rw[NB ae];exact h);obtain⟨l,m⟩:=zg i a (x:=(x.1-1,sS x.2 (.mk j name max a b f c g e) d)) k;obtain⟨n,r⟩:=zg i b l;obtain⟨o,t⟩:=kX i c (dn d) _ n;obtain⟨p,u⟩:=kX i e (dn d) _ o;exact⟨p,by simp only at m;omega⟩
theorem kX(a:WC b w Hf idS cS idR cR Inv sS sR)(l:List cl)(d:Int)(x:Nat×σ)(h:Inv x.1 x.2):Inv (pd sS sR l d x).1 (pd sS sR l d x).2/\(pd sS sR l d x).1<=x.1:=by
 cases l with
 |nil=>rw[pd];exact⟨h,Nat.le_refl _⟩
 |cons s r=>
  rw[pd];split
  .exact⟨h,Nat.le_refl _⟩
  .rename_i c;obtain⟨e,g⟩:=Ty a s d x c h;obtain⟨f,i⟩:=kX a r d _ e;exact⟨f,ae⟩
end
def Cu(d:WC b w Hf idS cS idR cR Inv sS sR)(e:bj)(q:e.ok)(f:e.sz<=1048576){L:Heap}{i:Nat}(h:sE b L i)(n:Nat)(s:σ)(j:n<=401)(r:Inv n s):
  BS tb 245 [.ptr w 0,.agg (xT e)] (L++Hf n s) i (.tuple []) (L++Hf (AN sR e (n,s)).1 (AN sR e (n,s)).2) i:=by
 have g:=d.wf.g h;have a:e.xs.length<=1048576:=by have:=bQ e.xs;rw[bj.gj]at f;omega
 have c:=De e a;have l:=h.cons (k:=.var false (xT e));refine ib (af:=Uj) rfl rfl ?_;unfold Uj;dsimp only[ai];unfold AN;by_cases m:n=0
 .subst m;rw[aq (.inl rfl)];exact gN (OK g.n0 g.n1 g.b0 g.l0 g.b1 g.l1 g.gw g.sw g.w0 g.w1 g.w2 g.w3) k0
 .have o:¬(n:Int)=0:=ae;cases p:O9 e with
  |true=>
   rw[p]at c;rw[aq (.inr rfl)];exact gP (Fi g.n0 g.n1 g.b0 g.l0 g.b1 g.l1 g.gw g.sw g.w0 g.w1 g.w2 g.w3 o) c k0
  |false=>
   rw[p]at c;rw[ak (by simp[m])];have hR:=d.R l n s e q f j ae r;have t:=Fk d.wf (sR s e) e.sz e (Nat.le_refl _) f _ _ n l j;exact gR (Fi g.n0 g.n1 g.b0 g.l0 g.b1 g.l1 g.gw g.sw g.w0 g.w1 g.w2 g.w3 o) c (bA hR t) k0
def qt(p:WC b w Hf idS cS idR cR Inv sS sR):∀(k:Nat) (l:List cl),eZ l<k->k<=1048577->dU l->∀(f:Bool) (L:Heap) (u n:Nat) (s:σ) (d:Int),sE b L u->n<=401->Inv n s->
  BS tb 227 [.ptr w 0,.p (.slice f (cU l)),.p (.int .i64 d)] (L++Hf n s) u (.tuple []) (L++Hf (pd sS sR l d (n,s)).1 (pd sS sR l d (n,s)).2) u
 |0,l,O,_,_=>absurd O (Nat.not_lt_zero _)
 |k+1,l,O,hk,hl=>by
  intro f L u n s d h hn hi;have g:=p.wf.g h;have P:l.length<=1048576:=by have:=eu l;omega
  refine ib (af:=a227) rfl rfl ?_;unfold a227;dsimp only[ai];refine gN (Fi g.n0 g.n1 g.b0 g.l0 g.b1 g.l1 g.gw g.sw g.w0 g.w1 g.w2 g.w3 @cG) (k1 ?_);refine bL (λj Q=>∃i m t,i+j=l.length/\m<=401/\Inv m t/\pd sS sR l d (n,s)=pd sS sR (l.drop i) d (m,t)/\Q=⟨[(0,.ptr w 0),(2,.p (.int .i64 d)),(8,.p (.slice f (cU l))),(9,.p (.int .i64 l.length)),(10,.p (.int .i64 i))],L++Hf m t,u,[u,u]⟩) ?_ l.length _ ⟨0,n,s,ae,hn,hi,rfl,rfl⟩;rintro j Q ⟨i,m,t,hj,x4,I,hm,rfl⟩;refine aH IC.eq_1 ?_;rw[hm];rcases bS i l.length with c|c
  .have F:(i:Int)<l.length:=ae;have R:(0:Int)<=i:=ae;have G:=mG l i c;have r:=jC hl l[i] (List.getElem_mem c);have y:=j6 (List.getElem_mem c);rw[List.drop_eq_getElem_cons c,pd];generalize l[i]=q at G r y⊢;obtain⟨H,name,max,a,v,z,e,A,o⟩:=q;have B:=r;simp only[cl.ok]at r;obtain⟨_,_,_,⟨ha,J⟩,⟨hb,K⟩,M,N⟩:=r;simp only[cl.sz]at y;simp only[cl.cs]at G;by_cases S:m=0
   .subst S;rw[aq rfl];exact gN (DF g.n0 g.n1 g.b0 g.l0 g.b1 g.l1 g.gw g.sw g.w0 g.w1 g.w2 g.w3 F R G @cG) k0
   .rw[ak S];have e1:((m:Int)-1)=((m-1:Nat):Int):=ae;have e2:¬(m:Int)=0:=ae;have C:=h.cons (k:=.var false (dR H name max a v z e A o));have T:Inv (m-1+1) t:=by rw[NB ae];exact I
    have U:=p.S C (m-1) t (.mk H name max a v z e A o) d B (by simp only[cl.sz];omega) ae T;simp only[cl.d,dR]at U;have V:Inv (m-1) (sS t (.mk H name max a v z e A o) d):=p.iS T;have W:=Cu p a ha (by simpa[jL]using J) C (m-1) _ ae V;obtain⟨X,l2⟩:=zg p a (x:=(m-1,sS t (.mk H name max a v z e A o) d)) V;simp only at l2;have D:=Cu p v hb (by simpa[jL]using K) C _ _ ae X;obtain⟨Y,l3⟩:=zg p v X;have Z:=qt p k e ae ae M z _ _ _ _ (dn d) C ae Y;obtain⟨i4,l4⟩:=kX p e (dn d) _ Y;have E:=qt p k o ae ae N A _ _ _ _ (dn d) C ae i4;obtain⟨i5,l5⟩:=kX p o (dn d) _ i4;rw[D7];dsimp only[dR]at W D Z E;refine gR (Jg g.n0 g.n1 g.b0 g.l0 g.b1 g.l1 g.gw g.sw g.w0 g.w1 g.w2 g.w3 F R G e1 e2 @cG) trivial (dP U W D Z E) (k1 ?_);exact LI.next (m':=j-1) ae ⟨i+1,_,_,ae,ae,i5,rfl,rfl⟩
  .have F:¬(i:Int)<l.length:=ae;rw[List.drop_eq_nil_of_le c,pd];exact gN (Fi g.n0 g.n1 g.b0 g.l0 g.b1 g.l1 g.gw g.sw g.w0 g.w1 g.w2 g.w3 F) k0
end
end
section
open Go Go.Dv
noncomputable def XY (i:cl) (d:Int):Int:=match i with
 | .mk h name max a b f c g e=>Classical.epsilon λr=>PS tb 199 [.agg (qy h name max a b f c g e),.int .i64 d] (.int .i64 r)/\(r=0->o8 h a b)
def Fo{i:Int}{name:ByteArray}{max:Int}{a b:bj}{f:Bool}{c:List cl}{g:Bool}{e:List cl}(h:(cl.mk i name max a b f c g e).ok)(j:c.length<=1099511627776)(k:e.length<=1099511627776)(d:Int):
  PS tb 199 [.agg (qy i name max a b f c g e),.int .i64 d] (.int .i64 (XY (.mk i name max a b f c g e) d))/\(XY (.mk i name max a b f c g e) d=0->o8 i a b):=by
 simp only[cl.ok]at h;obtain⟨_,n,_,⟨o,l⟩,⟨q,m⟩,_,_⟩:=h;exact od (p:=λr=>PS tb 199 [.agg (qy i name max a b f c g e),.int .i64 d] (.int .i64 r)/\(r=0->o8 i a b)) (PU name max a b f c g e i n o l q m j k d)
def Hv(p:List DV)(n:Nat)(s:Int):Heap:=[(3,.var false [.p (.int .i64 n),.func 198 [.ptr 1 0],.func 200 []]),(2,.var false p),(1,.var false [.p (.int .i64 s)]),(0,.var false p)]
noncomputable def HR (s:Int) (a:cl) (d:Int):Int:=if s=0 then XY a d else s
abbrev fG(p:Pc):List DV:=[.p (.str p.name),.p (.slice p.fp (im p.ps)),.p (.slice p.fb (cU p.body))]
def VO(p:Pc):WF 4 3 (Hv (fG p)) (.func 198 [.ptr 1 0]) (.func 200 []) where
 wb:=ae
 gw:=λn s=>rfl
 sw:=λn s m=>rfl
 ba:=λn s c hc=>by
  have h3:3<c:=ae;have h2:2<c:=ae;have h1:1<c:=ae;have h0:0<c:=ae;simp[Hv,aD,h3,h2,h1,h0]
 al:=λn s c hc=>by
  have h1:1<c:=ae;simp[Hv,de,bq.below,below,dep,h1]
 no:=λn s c hc=>by
  have h3:¬3=c:=ae;have h2:¬2=c:=ae;have h1:¬1=c:=ae;have h0:¬0=c:=ae;simp[Hv,ag,h3,h2,h1,h0]
def CA{L H:Heap}{a:Nat}(e:bj)(b:ag H a=none)(c:aD a H=H)(d:de a H=true):BS tb 200 [.agg (xT e)] H a (.tuple []) H a:=by
 refine ib (af:=Th) rfl rfl ?_;unfold Th;dsimp only[ai];exact gN (dS b c d) k0
def Sf(p:Pc){L:Heap}{i:Nat}(h:sE 4 L i)(n:Nat)(s:Int)(c:cl)(d:Int)(k:c.ok)(t:c.sz<=1048576):BS tb 198 [.agg c.d,.p (.int .i64 d),.ptr 1 0] (L++Hv (fG p) n s) i (.tuple []) (L++Hv (fG p) n (HR s c d)) i:=by
 have g:=(VO p).g h;obtain⟨w,name,max,a,b,f,e,x,l⟩:=c;simp only[cl.sz]at t;have y:=eu e;have z:=eu l;obtain⟨u,_⟩:=Fo k ae ae d;have m:∀s,ag (L++Hv (fG p) n s) 1=some (.var false [.p (.int .i64 s)]):=λs=>by rw[dK (h.no 1 (.inr ae))];rfl
 have o:∀s r,aC (L++Hv (fG p) n s) 1 (.var false [.p (.int .i64 r)])=L++Hv (fG p) n r:=λs r=>by rw[iO (h.no 1 (.inr ae))];rfl
 have v:=h.ge;have q:(i==1)=false:=fy.2 ae;simp only[cl.d,dR];refine ib (af:=a198) rfl rfl ?_;unfold a198;dsimp only[ai];unfold HR;by_cases j:s=0
 .rw[aq j];exact gP (rG g.n0 g.b0 g.l0 g.b1 g.l1 m o q (bU j)) u k0
 .rw[ak j];exact gN (rG g.n0 g.b0 g.l0 g.b1 g.l1 m o q j) k0
def VB(p:Pc):WC 4 3 (Hv (fG p)) 198 [.ptr 1 0] 200 [] (λ_ _=>True) HR (λs _=>s) where
 wf:=VO p
 mono:=λ_ h=>h
 S:=λh n s st d hst hz _ _=>Sf p h n s st d hst hz
 R:=λh n s e _ _ _ _ _=>by
  have g:=(VO p).g h;exact CA (L:=[]) e (g.n0 n s) (g.b0 n s) (g.l0 n s)
 iS:=λ_=>trivial
 iR:=λ_=>trivial
def FM(b:Nat):sE b [] b:=⟨Nat.le_refl _,λ_ _=>rfl,λ_ _=>rfl,λ_ _=>rfl⟩
noncomputable def EJ (p:Pc) (s:Int):Nat×Int:=pd HR (λs _=>s) p.body 1 (401,s)
def Rl(p:Pc)(s:Int)(b:dU p.body)(c:eZ p.body<=1048576):BS tb 197 [.agg (fG p),.func 198 [.ptr 1 0],.func 200 []] [(1,.var false [.p (.int .i64 s)]),(0,.var false (fG p))] 2 (.p (.int .i64 (401-(EJ p s).1))) [(1,.var false [.p (.int .i64 (EJ p s).2)]),(0,.var false (fG p))] 2:=by
 have h:=qt (VB p) 1048577 p.body ae ae b p.fb [] 4 401 s 1 (FM 4) ae trivial;have a:=(kX (VB p) p.body 1 (401,s) trivial).2;refine ib (af:=Eu) rfl rfl ?_;unfold Eu;dsimp only[ai]
 change BS tb _ _ (Hv (fG p) 401 s) 4 _ (Hv (fG p) (EJ p s).1 (EJ p s).2) 4 at h
 change(EJ p s).1<=401 at a
 generalize EJ p s=x at h a⊢;simp only[Hv]at h;exact gR trivial trivial h k0;all_goals simp
mutual
def Qq:cl->Prop
 | .mk e _ _ a b _ c _ d=>o8 e a b/\uS c/\uS d
def uS:List cl->Prop
 |[]=>True
 |s::r=>Qq s/\uS r
end
def Vi(e:bj)(x:Nat×Int):(AN (λs _=>s) e x).2=x.2:=by unfold AN;split<;>rfl
mutual
theorem XW(s:cl)(i:s.ok)(o:s.sz<=1048576)(d:Int)(x:Nat×Int)(m:(D7 HR (λs _=>s) s d x).1≠0)(n:(D7 HR (λs _=>s) s d x).2=0):x.2=0/\Qq s:=by
 cases s with
 |mk w name max a b f c g e=>
  simp only[cl.sz]at o;have y:=eu c;have z:=eu e;have p:=(Fo i ae ae d).2;have q:=i;simp only[cl.ok]at i;obtain⟨_,_,_,_,_,j,k⟩:=i;rw[D7]at m n;obtain⟨r,t,u⟩:=HW e k ae _ _ m n;obtain⟨A,h,v⟩:=HW c j ae _ _ r t;rw[Vi,Vi]at h;simp only[HR]at h;split at h
  .rename_i l;exact⟨l,by rw[Qq];exact⟨p h,v,u⟩⟩
  .rename_i l;exact absurd h l
theorem HW(l:List cl)(e:dU l)(f:eZ l<=1048576)(d:Int)(x:Nat×Int)(a:(pd HR (λs _=>s) l d x).1≠0)(b:(pd HR (λs _=>s) l d x).2=0):x.1≠0/\x.2=0/\uS l:=by
 cases l with
 |nil=>rw[pd]at a b;exact⟨a,b,by rw[uS];trivial⟩
 |cons s r=>
  simp only[dU]at e;simp only[eZ]at f;rw[pd]at a b;split at a
  .rename_i c;exact absurd c a
  .rename_i c;rw[ak c]at b;obtain⟨g,h,i⟩:=HW r e.2 ae d _ a b;obtain⟨j,k⟩:=XW s e.1 ae d x g h;exact⟨c,j,by rw[uS];exact⟨k,i⟩⟩
end
structure o7(p:Pc):Prop where
 nm:p.name.size<=1048576
 pl:p.ps.length<=1048576
 pn:∀x∈p.ps,x.name.size<=1048576
 bo:dU p.body
 bz:eZ p.body<=1048576
def yC(p:Pc)(h:o7 p):∃r:Int,PS tb 163 [.agg (eV p)] (.int .i64 r)/\(r=0->uS p.body):=by
 have d:=vA p.name h.nm;obtain⟨k,a,_⟩:=Mr p.ps p.fp h.pl h.pn;have c:=Rl p 0 h.bo h.bz;refine mr (af:=SA) rfl rfl ?_;unfold SA;dsimp only[List.map,aI,ai,eV];have b:=(kX (VB p) p.body 1 (401,0) trivial).2
 change(EJ p 0).1<=401 at b
 have e:=HW p.body h.bo h.bz 1 (401,0)
 change(EJ p 0).1≠0->(EJ p 0).2=0->_ at e
 generalize EJ p 0=x at c b e;by_cases g:k=0
 .subst g;by_cases f:x.2=0
  .rw[f]at c;refine hR trivial (bA d a) c (k3 ?_ ?_ ?_)<;>(repeat with_reducible intro i)
   all_goals exact⟨⟨_,by intro j;first|omega|contradiction|exact(e ae f).2.2⟩,rfl⟩
  .refine hR f (bA d a) c (k2 ?_ ?_)<;>(repeat with_reducible intro i)
   all_goals exact⟨⟨_,by intro j;first|omega|contradiction⟩,rfl⟩
 .refine hP g (bA d a) (k2 ?_ ?_)<;>(repeat with_reducible intro i)
  all_goals exact⟨⟨_,by intro j;first|omega|contradiction⟩,rfl⟩
end
end Go.Dv.Tryz
