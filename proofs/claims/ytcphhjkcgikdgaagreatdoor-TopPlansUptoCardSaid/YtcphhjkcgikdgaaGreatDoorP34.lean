/- Lemmas for the law of this claim. -/
import Derived.Test.YtcphhjkcgikdgaaGreatDoorP33
import Derived.Test.YtcphhjkcgikdgaaGreatDoorP32
import Derived.Test.YtcphhjkcgikdgaaGreatDoorP26
import Derived.Test.YtcphhjkcgikdgaaGreatDoorP29
set_option linter.all false
set_option maxRecDepth 100000
set_option maxHeartbeats 8000000
namespace Go.Dv.Tryz
section
open Go Go.Dv
def nd(c max:Int)(a b:aF):Prop:=1<=c/\c<=8/\(c≠8->Ar a)/\(c=3\/c=6->Ar b)/\(c=6->1<=max/\max<=16)
section
variable(name:ByteArray)(max:Int)(a b:aF)(f:Bool)(body:List aX)(g:Bool)(els:List aX)
def xF{P q:Prop}(k:q)(h:Bx q->P:=by
 intro k;refine mA (af:=UB) rfl rfl ?_;unfold UB;dsimp only[List.map,aQ,aj];exact k.q):P:=h ⟨k⟩
def PC(o:name.size<=1048576)(p:a.ok)(c:a.sz<=1048576)(q:b.ok)(i:b.sz<=1048576)(j:body.length<=1099511627776)(k:els.length<=1099511627776)(d:Int):∃r:Int,PS tb 199 [.agg (oI 1 name max a b f body g els),.int .i64 d] (.int .i64 r)/\(r=0->nd 1 max a b):=by
 have m:PS tb 228 [.int .i64 1] (.tuple [.agg [.bool true,.bool true,.bool false,.bool false,.bool false,.bool false],.bool true]):=mN 1;have t:a.xs.length<=1048576:=by have:=bI a.xs;rw[aF.fj]at c;omega
 have u:b.xs.length<=1048576:=by have:=bI b.xs;rw[aF.fj]at i;omega
 obtain⟨s,n,_⟩:=nw 1 name max a b f body g els t u true true false false false false j k;have v:=uI name o;obtain⟨x,l,w⟩:=jV a p c;refine xF ?_;cases s with
 |false=>
  refine gP trivial (bf m n) (k1 ?_);all_goals exact⟨⟨_,by intro h;first|omega|contradiction⟩,rfl⟩
 |true=>
  repeat'(first|exact m|exact n|exact v|exact l|(simp(disch:=omega) only[go_sem,seval,reduceCtorEq])|with_reducible exact Ev.mk|apply gb|((first|apply b5|apply bO)<;>intro e q<;>(simp(disch:=omega) only[go_sem,seval,reduceCtorEq,e])<;>clear e))
  all_goals first
   |exact⟨⟨_,by intro h;first|omega|contradiction⟩,rfl⟩
   |exact⟨⟨_,λ_=>⟨ae,ae,λ_=>w ae,λh=>ae,λh=>ae⟩⟩,rfl⟩
def QC(o:name.size<=1048576)(p:a.ok)(c:a.sz<=1048576)(q:b.ok)(i:b.sz<=1048576)(j:body.length<=1099511627776)(k:els.length<=1099511627776)(d:Int):∃r:Int,PS tb 199 [.agg (oI 2 name max a b f body g els),.int .i64 d] (.int .i64 r)/\(r=0->nd 2 max a b):=by
 have m:PS tb 228 [.int .i64 2] (.tuple [.agg [.bool true,.bool true,.bool false,.bool false,.bool false,.bool false],.bool true]):=mN 2;have t:a.xs.length<=1048576:=by have:=bI a.xs;rw[aF.fj]at c;omega
 have u:b.xs.length<=1048576:=by have:=bI b.xs;rw[aF.fj]at i;omega
 obtain⟨s,n,_⟩:=nw 2 name max a b f body g els t u true true false false false false j k;have v:=uI name o;obtain⟨x,l,w⟩:=jV a p c;refine xF ?_;cases s with
 |false=>
  refine gP trivial (bf m n) (k1 ?_);all_goals exact⟨⟨_,by intro h;first|omega|contradiction⟩,rfl⟩
 |true=>
  repeat'(first|exact m|exact n|exact v|exact l|(simp(disch:=omega) only[go_sem,seval,reduceCtorEq])|with_reducible exact Ev.mk|apply gb|((first|apply b5|apply bO)<;>intro e q<;>(simp(disch:=omega) only[go_sem,seval,reduceCtorEq,e])<;>clear e))
  all_goals first
   |exact⟨⟨_,by intro h;first|omega|contradiction⟩,rfl⟩
   |exact⟨⟨_,λ_=>⟨ae,ae,λ_=>w ae,λh=>ae,λh=>ae⟩⟩,rfl⟩
def Qr(x:name.size<=1048576)(q:a.ok)(c:a.sz<=1048576)(n:b.ok)(e:b.sz<=1048576)(j:body.length<=1099511627776)(k:els.length<=1099511627776)(d:Int):∃r:Int,PS tb 199 [.agg (oI 3 name max a b f body g els),.int .i64 d] (.int .i64 r)/\(r=0->nd 3 max a b):=by
 have o:PS tb 228 [.int .i64 3] (.tuple [.agg [.bool false,.bool true,.bool true,.bool false,.bool false,.bool false],.bool true]):=mN 3;have t:a.xs.length<=1048576:=by have:=bI a.xs;rw[aF.fj]at c;omega
 have u:b.xs.length<=1048576:=by have:=bI b.xs;rw[aF.fj]at e;omega
 obtain⟨s,p,_⟩:=nw 3 name max a b f body g els t u false true true false false false j k;obtain⟨y,l,v⟩:=jV a q c;obtain⟨z,m,w⟩:=jV b n e;refine xF ?_;cases s with
 |false=>
  refine gP trivial (bf o p) (k1 ?_);all_goals exact⟨⟨_,by intro h;first|omega|contradiction⟩,rfl⟩
 |true=>
  repeat'(first|exact o|exact p|exact l|exact m|(simp(disch:=omega) only[go_sem,seval,reduceCtorEq])|with_reducible exact Ev.mk|apply gb|((first|apply b5|apply bO)<;>intro i n<;>(simp(disch:=omega) only[go_sem,seval,reduceCtorEq,i])<;>clear i))
  all_goals first
   |exact⟨⟨_,by intro h;first|omega|contradiction⟩,rfl⟩
   |exact⟨⟨_,λ_=>⟨ae,ae,λ_=>v ae,λ_=>w ae,λh=>ae⟩⟩,rfl⟩
def PF(v:name.size<=1048576)(o:a.ok)(c:a.sz<=1048576)(p:b.ok)(i:b.sz<=1048576)(j:body.length<=1099511627776)(k:els.length<=1099511627776)(d:Int):∃r:Int,PS tb 199 [.agg (oI 4 name max a b f body g els),.int .i64 d] (.int .i64 r)/\(r=0->nd 4 max a b):=by
 have m:PS tb 228 [.int .i64 4] (.tuple [.agg [.bool false,.bool true,.bool false,.bool false,.bool false,.bool false],.bool true]):=mN 4;have q:a.xs.length<=1048576:=by have:=bI a.xs;rw[aF.fj]at c;omega
 have t:b.xs.length<=1048576:=by have:=bI b.xs;rw[aF.fj]at i;omega
 obtain⟨s,n,_⟩:=nw 4 name max a b f body g els q t false true false false false false j k;obtain⟨w,l,u⟩:=jV a o c;refine xF ?_;cases s with
 |false=>
  refine gP trivial (bf m n) (k1 ?_);all_goals exact⟨⟨_,by intro h;first|omega|contradiction⟩,rfl⟩
 |true=>
  repeat'(first|exact m|exact n|exact l|(simp(disch:=omega) only[go_sem,seval,reduceCtorEq])|with_reducible exact Ev.mk|apply gb|((first|apply b5|apply bO)<;>intro e p<;>(simp(disch:=omega) only[go_sem,seval,reduceCtorEq,e])<;>clear e))
  all_goals first
   |exact⟨⟨_,by intro h;first|omega|contradiction⟩,rfl⟩
   |exact⟨⟨_,λ_=>⟨ae,ae,λ_=>u ae,λh=>ae,λh=>ae⟩⟩,rfl⟩
def Pu(v:name.size<=1048576)(o:a.ok)(c:a.sz<=1048576)(p:b.ok)(i:b.sz<=1048576)(j:body.length<=1099511627776)(k:els.length<=1099511627776)(d:Int):∃r:Int,PS tb 199 [.agg (oI 5 name max a b f body g els),.int .i64 d] (.int .i64 r)/\(r=0->nd 5 max a b):=by
 have m:PS tb 228 [.int .i64 5] (.tuple [.agg [.bool false,.bool true,.bool false,.bool false,.bool true,.bool true],.bool true]):=mN 5;have q:a.xs.length<=1048576:=by have:=bI a.xs;rw[aF.fj]at c;omega
 have t:b.xs.length<=1048576:=by have:=bI b.xs;rw[aF.fj]at i;omega
 obtain⟨s,n,_⟩:=nw 5 name max a b f body g els q t false true false false true true j k;obtain⟨w,l,u⟩:=jV a o c;refine xF ?_;cases s with
 |false=>
  refine gP trivial (bf m n) (k1 ?_);all_goals exact⟨⟨_,by intro h;first|omega|contradiction⟩,rfl⟩
 |true=>
  repeat'(first|exact m|exact n|exact l|(simp(disch:=omega) only[go_sem,seval,reduceCtorEq])|with_reducible exact Ev.mk|apply gb|((first|apply b5|apply bO)<;>intro e p<;>(simp(disch:=omega) only[go_sem,seval,reduceCtorEq,e])<;>clear e))
  all_goals first
   |exact⟨⟨_,by intro h;first|omega|contradiction⟩,rfl⟩
   |exact⟨⟨_,λ_=>⟨ae,ae,λ_=>u ae,λh=>ae,λh=>ae⟩⟩,rfl⟩
def P3(t:name.size<=1048576)(u:a.ok)(c:a.sz<=1048576)(o:b.ok)(e:b.sz<=1048576)(j:body.length<=1099511627776)(k:els.length<=1099511627776)(d:Int):∃r:Int,PS tb 199 [.agg (oI 6 name max a b f body g els),.int .i64 d] (.int .i64 r)/\(r=0->nd 6 max a b):=by
 have p:PS tb 228 [.int .i64 6] (.tuple [.agg [.bool true,.bool true,.bool true,.bool true,.bool true,.bool false],.bool true]):=mN 6;have v:a.xs.length<=1048576:=by have:=bI a.xs;rw[aF.fj]at c;omega
 have w:b.xs.length<=1048576:=by have:=bI b.xs;rw[aF.fj]at e;omega
 obtain⟨s,q,l⟩:=MP name max a b f body g els v w j k;have x:=uI name t;obtain⟨A,m,y⟩:=jV a u c;obtain⟨B,n,z⟩:=jV b o e;refine xF ?_;cases s with
 |false=>
  refine gP trivial (bf p q) (k1 ?_);all_goals exact⟨⟨_,by intro h;first|omega|contradiction⟩,rfl⟩
 |true=>
  repeat'(first|exact p|exact q|exact x|exact m|exact n|(simp(disch:=omega) only[go_sem,seval,reduceCtorEq])|with_reducible exact Ev.mk|apply gb|((first|apply b5|apply bO)<;>intro i o<;>(simp(disch:=omega) only[go_sem,seval,reduceCtorEq,i])<;>clear i))
  all_goals first
   |exact⟨⟨_,by intro h;first|omega|contradiction⟩,rfl⟩
   |exact⟨⟨_,λ_=>⟨ae,ae,λ_=>y ae,λ_=>z ae,λ_=>l rfl⟩⟩,rfl⟩
def Qo(v:name.size<=1048576)(o:a.ok)(c:a.sz<=1048576)(p:b.ok)(i:b.sz<=1048576)(j:body.length<=1099511627776)(k:els.length<=1099511627776)(d:Int):∃r:Int,PS tb 199 [.agg (oI 7 name max a b f body g els),.int .i64 d] (.int .i64 r)/\(r=0->nd 7 max a b):=by
 have m:PS tb 228 [.int .i64 7] (.tuple [.agg [.bool false,.bool true,.bool false,.bool false,.bool false,.bool false],.bool true]):=mN 7;have q:a.xs.length<=1048576:=by have:=bI a.xs;rw[aF.fj]at c;omega
 have t:b.xs.length<=1048576:=by have:=bI b.xs;rw[aF.fj]at i;omega
 obtain⟨s,n,_⟩:=nw 7 name max a b f body g els q t false true false false false false j k;obtain⟨w,l,u⟩:=jV a o c;refine xF ?_;cases s with
 |false=>
  refine gP trivial (bf m n) (k1 ?_);all_goals exact⟨⟨_,by intro h;first|omega|contradiction⟩,rfl⟩
 |true=>
  repeat'(first|exact m|exact n|exact l|(simp(disch:=omega) only[go_sem,seval,reduceCtorEq])|with_reducible exact Ev.mk|apply gb|((first|apply b5|apply bO)<;>intro e p<;>(simp(disch:=omega) only[go_sem,seval,reduceCtorEq,e])<;>clear e))
  all_goals first
   |exact⟨⟨_,by intro h;first|omega|contradiction⟩,rfl⟩
   |exact⟨⟨_,λ_=>⟨ae,ae,λ_=>u ae,λh=>ae,λh=>ae⟩⟩,rfl⟩
def QE(o:name.size<=1048576)(p:a.ok)(c:a.sz<=1048576)(q:b.ok)(e:b.sz<=1048576)(i:body.length<=1099511627776)(j:els.length<=1099511627776)(d:Int):∃r:Int,PS tb 199 [.agg (oI 8 name max a b f body g els),.int .i64 d] (.int .i64 r)/\(r=0->nd 8 max a b):=by
 have k:PS tb 228 [.int .i64 8] (.tuple [.agg [.bool false,.bool false,.bool false,.bool true,.bool false,.bool false],.bool true]):=mN 8;have m:a.xs.length<=1048576:=by have:=bI a.xs;rw[aF.fj]at c;omega
 have n:b.xs.length<=1048576:=by have:=bI b.xs;rw[aF.fj]at e;omega
 obtain⟨s,l,_⟩:=nw 8 name max a b f body g els m n false false false true false false i j;refine xF ?_;cases s with
 |false=>
  refine gP trivial (bf k l) (k1 ?_);all_goals exact⟨⟨_,by intro h;first|omega|contradiction⟩,rfl⟩
 |true=>
  refine gP trivial (bf k l) (k2 ?_ ?_);all_goals first
   |exact⟨⟨_,by intro h;first|omega|contradiction⟩,rfl⟩
   |exact⟨⟨_,λ_=>⟨ae,ae,λh=>absurd rfl h,λh=>ae,λh=>ae⟩⟩,rfl⟩
def OE(c:Int)(i:¬(1<=c/\c<=8))(o:name.size<=1048576)(p:a.ok)(j:a.sz<=1048576)(q:b.ok)(k:b.sz<=1048576)(l:body.length<=1099511627776)(m:els.length<=1099511627776)(d:Int):∃r:Int,PS tb 199 [.agg (oI c name max a b f body g els),.int .i64 d] (.int .i64 r)/\(r=0->nd c max a b):=by
 have n:PS tb 228 [.int .i64 c] (.tuple [.agg [.bool false,.bool false,.bool false,.bool false,.bool false,.bool false],.bool false]):=by
  have h:=mN c;have e:TP c=([.bool false,.bool false,.bool false,.bool false,.bool false,.bool false],false):=by unfold TP;rw[an ae,an ae,an ae,an ae,an ae,an ae]
  rw[e]at h;exact h
 refine xF ?_;refine gP trivial n (k1 ?_);all_goals exact⟨⟨_,by intro h;first|omega|contradiction⟩,rfl⟩
def QB(j:Int)(k:name.size<=1048576)(l:a.ok)(c:a.sz<=1048576)(m:b.ok)(e:b.sz<=1048576)(h:body.length<=1099511627776)(i:els.length<=1099511627776)(d:Int):∃r:Int,PS tb 199 [.agg (oI j name max a b f body g els),.int .i64 d] (.int .i64 r)/\(r=0->nd j max a b):=by
 by_cases n:j=1
 .subst n;exact PC name max a b f body g els k l c m e h i d
 by_cases o:j=2
 .subst o;exact QC name max a b f body g els k l c m e h i d
 by_cases p:j=3
 .subst p;exact Qr name max a b f body g els k l c m e h i d
 by_cases q:j=4
 .subst q;exact PF name max a b f body g els k l c m e h i d
 by_cases s:j=5
 .subst s;exact Pu name max a b f body g els k l c m e h i d
 by_cases t:j=6
 .subst t;exact P3 name max a b f body g els k l c m e h i d
 by_cases u:j=7
 .subst u;exact Qo name max a b f body g els k l c m e h i d
 by_cases v:j=8
 .subst v;exact QE name max a b f body g els k l c m e h i d
 exact OE name max a b f body g els j ae k l c m e h i d
end
end
section
open Go Go.Dv
structure GH(H:Heap)(t:Nat):Prop where
 tp:tG H=t
 a:∀c,t<=c->ah H c=none
 b:∀c,t<=c->az c H=H
 l:∀c,t<=c->cL c H=true
def JN{i:Nat}:∀{H:Heap},ah H i=none->ml H i=H
 |[],_=>rfl
 |(k,b)::r,h=>by
   rw[aP]at h;by_cases e:k=i
   .rw[aq e]at h;cases h
   .rw[an e]at h;simp[ml,e,JN h]
section
variable{H:Heap}{t:Nat}
def GH.no(h:GH H t):ah H t=none:=h.a t (Nat.le_refl _)
def GH.b0(h:GH H t):az t H=H:=h.b t (Nat.le_refl _)
def GH.l0(h:GH H t):cL t H=true:=h.l t (Nat.le_refl _)
def GH.b1(h:GH H t):az (t+1) H=H:=h.b (t+1) (iQ _)
def GH.l1(h:GH H t):cL (t+1) H=true:=h.l (t+1) (iQ _)
def GH.fz(h:GH H t):ml H t=H:=JN h.no
def GH.cons{b:ca}(h:GH H t)(d:b.below (t+1)=true:=by rfl):GH ((t,b)::H) (t+1):=
 ⟨by simp only[tG,h.tp];exact Nat.max_eq_left (iQ t),λc a=>by rw[aP,an ae];exact h.a c ae,λc a=>by rw[az,aq ae,h.b c ae],
  λc a=>by simp only[cL,aO];exact⟨ca.fu a d,h.l c ae⟩⟩
def gh0:GH [] 0:=⟨rfl,λ_ _=>rfl,λ_ _=>rfl,λ_ _=>rfl⟩
end
def Fa(t:Nat):max (t+1) t=t+1:=Nat.max_eq_left (iQ t)
def Ry(y x:Pm):∃r,PS tb 226 [.agg [.str y.name,.int .i64 y.ty],.eN [.str x.name,.int .i64 x.ty]] (.bool r)/\True:=by
 refine tM (af:=a226) rfl rfl ?_;unfold a226;dsimp only[List.map,aQ,aj];refine gN trivial (k1 ?_);all_goals exact⟨⟨_,trivial⟩,rfl⟩
def Lp(l:List Pm)(b:Bool)(f:FuncId)(a:List PV)(q:l.length<=1048576)(o:∀p∈l,∃r,PS tb f (.agg [.str p.name,.int .i64 p.ty]::a) (.bool r)/\True)(e:cl (bE [] 5) (a.map aQ)=some a:=by rfl):
  ∃n:Int,PS tb 244 [.slice b (e9 l),.func f a] (.int .i64 n)/\True:=by
 refine mA (af:=RP) rfl rfl ?_;unfold RP;dsimp only[List.map,aQ,aj];refine gN @b6 (k1 ?_);refine bU (λj g=>∃i:Nat,i+j=l.length/\g=⟨[(0,.p (.slice b (e9 l))),(1,.p (.func f a)),(7,.p (.int .i64 l.length)),(8,.p (.int .i64 i))],[],0,[0]⟩) ?_ l.length _ ⟨0,ae,rfl⟩;rintro j g ⟨i,s,rfl⟩;refine bq Js.eq_1 ?_;rcases cK i l.length with c|c
 .have d:(i:Int)<l.length:=ae;have h:(0:Int)<=i:=ae;have k:=lT l i c;obtain⟨r,m,_⟩:=o _ (List.getElem_mem c);cases r with
  |true=>
   refine gP (dM d h @b6 k e) m (k1 ?_);exact⟨⟨_,trivial⟩,rfl⟩
  |false=>
   refine gP (dM d h @b6 k e) m (k1 ?_);exact LI.next (m':=j-1) ae ⟨i+1,ae,rfl⟩
 .have d:¬(i:Int)<l.length:=ae;refine gN d (k1 ?_);exact⟨⟨_,trivial⟩,rfl⟩
def Ez(l:List Pm)(b:Bool)(f:FuncId)(a:List PV)(d:l.length<=1048576)(e:∀p∈l,∃r,PS tb f (.agg [.str p.name,.int .i64 p.ty]::a) (.bool r)/\True)(c:cl (bE [] 5) (a.map aQ)=some a:=by rfl):
  ∃r,PS tb 225 [.slice b (e9 l),.func f a] (.bool r)/\True:=by
 obtain⟨n,g,_⟩:=Lp l b f a d e c;refine tM (af:=SZ) rfl rfl ?_;unfold SZ;dsimp only[List.map,aQ,aj];refine gP c g (k1 ?_);exact⟨⟨_,trivial⟩,rfl⟩
def oU(l:List Pm):bV 2 (e9 l)=true:=by simp[bV,e9,KS]
def AK(l:List Pm)(n:Nat):(e9 l).take n=e9 (l.take n):=by simp[e9]
def Mp(l:List Pm)(b:Bool)(v:l.length<=1048576)(s:∀p∈l,p.name.size<=1048576):∃n:Int,PS tb 196 [.slice b (e9 l)] (.int .i64 n)/\True:=by
 refine mA (af:=a196) rfl rfl ?_;unfold a196;dsimp only[List.map,aQ,aj];by_cases g:(6:Int)<l.length
 .refine gN (bf @b6 g) (k1 ?_);exact⟨⟨_,trivial⟩,rfl⟩
 refine gN (bf @b6 g) (k1 ?_);refine bU (λj h=>∃(i:Nat) (H:Heap) (t:Nat),i+j=l.length/\GH H t/\h=⟨[(0,.p (.slice b (e9 l))),(8,.p (.slice b (e9 l))),(9,.p (.int .i64 l.length)),(10,.p (.int .i64 i))],H,t,[0]⟩) ?_ l.length _ ⟨0,[],0,ae,gh0,rfl⟩;rintro j h ⟨i,H,t,w,a,rfl⟩;refine bq H6.eq_1 ?_;rcases cK i l.length with c|c
 .have e:(i:Int)<l.length:=ae;have k:(0:Int)<=i:=ae;have m:=lT l i c;have f:=uI l[i].name (s _ (List.getElem_mem c));obtain⟨r,u,_⟩:=Ez (l.take i) false 226 [.eN [.str l[i].name,.int .i64 l[i].ty]] (by rw[List.length_take];omega) λp _=>Ry p l[i]
  have o:¬(i:Int)=l.length:=ae;have q:(i:Int)<=l.length:=ae;repeat'(first|exact f|exact u|(simp(disch:=omega) only[go_sem,seval,reduceCtorEq,e,k,o,q,oU,Bool.and_false,b6,m,a.tp,a.no,a.b0,a.l0,a.b1,a.l1,a.fz,Fa,AK])|with_reducible exact Ev.mk|apply gb|((first|apply b5|apply bO)<;>intro d x<;>(simp(disch:=omega) only[go_sem,seval,reduceCtorEq,e,k,o,q,oU,Bool.and_false,b6,m,a.tp,a.no,a.b0,a.l0,a.b1,a.l1,a.fz,Fa,AK,d])<;>clear d))
  all_goals first
   |exact⟨⟨_,trivial⟩,rfl⟩
   |exact LI.next (m':=j-1) ae ⟨i+1,_,_,ae,a.cons,rfl⟩
 .have e:¬(i:Int)<l.length:=ae;refine gN (eY e a.tp a.b0 a.l0) (k1 ?_);exact⟨⟨_,trivial⟩,rfl⟩
end
section
open Go Go.Dv
mutual
def JY:aF->Nat->Nat
 | .mk _ _ _ _ a,n=>if n=0 then 0 else vw a (n-1)
def vw:List aF->Nat->Nat
 |[],n=>n
 |e::r,n=>vw r (JY e n)
end
mutual
theorem GL(e:aF)(n:Nat):JY e n<=n:=by
 cases e with
 |mk c m s f a=>
  rw[JY];split
  .omega
  .have:=CP a (n-1);omega
theorem CP(l:List aF)(n:Nat):vw l n<=n:=by
 cases l with
 |nil=>rw[vw];exact Nat.le_refl _
 |cons e r=>
  rw[vw];exact dL (CP r _) (GL e n)
end
def NU(e:aF)(n:Nat):JY e n=if n=0 then 0 else vw e.xs (n-1):=by cases e;simp only[JY,aF.xs]
structure sq(b:Nat)(L:Heap)(nx:Nat):Prop where
 ge:b<=nx
 ba:∀c,nx<=c->az c L=L
 al:∀c,nx<=c->cL c L=true
 no:∀c,nx<=c\/c<b->ah L c=none
def sq.cons{b:Nat}{L:Heap}{nx:Nat}{k:ca}(h:sq b L nx)(d:k.below (nx+1)=true:=by rfl):sq b ((nx,k)::L) (nx+1):=by
 have e:=h.ge;exact⟨ae,λc a=>by rw[az,aq ae,h.ba c ae],λc a=>by simp only[cL,aO];exact⟨ca.fu a d,h.al c ae⟩,
  λc a=>by rw[aP,an ae];exact h.no c ae⟩
structure WF{σ:Type}(b w:Nat)(Hf:Nat->σ->Heap)(fS fR:DV):Prop where
 wb:w<b
 gw:∀n s,ah (Hf n s) w=some (.var false [.p (.int .i64 n),fS,fR])
 sw:∀n s (m:Nat),aH (Hf n s) w (.var false [.p (.int .i64 m),fS,fR])=Hf m s
 ba:∀n s c,b<=c->az c (Hf n s)=Hf n s
 al:∀n s c,b<=c->cL c (Hf n s)=true
 no:∀n s c,b<=c->ah (Hf n s) c=none
section
variable{σ:Type}{b w:Nat}{Hf:Nat->σ->Heap}{fS fR:DV}{L:Heap}{nx:Nat}
structure WG(b w:Nat)(Hf:Nat->σ->Heap)(fS fR:DV)(L:Heap)(nx:Nat):Prop where
 n0:∀n s,ah (L++Hf n s) nx=none
 n1:∀n s,ah (L++Hf n s) (nx+1)=none
 b0:∀n s,az nx (L++Hf n s)=L++Hf n s
 l0:∀n s,cL nx (L++Hf n s)=true
 b1:∀n s,az (nx+1) (L++Hf n s)=L++Hf n s
 l1:∀n s,cL (nx+1) (L++Hf n s)=true
 gw:∀n s,ah (L++Hf n s) w=some (.var false [.p (.int .i64 n),fS,fR])
 sw:∀n s (m:Nat),aH (L++Hf n s) w (.var false [.p (.int .i64 m),fS,fR])=L++Hf m s
 w0:(nx==w)=false
 w1:(nx+1==w)=false
 w2:w<nx
 w3:w<nx+1
def WF.g(a:WF b w Hf fS fR)(h:sq b L nx):WG b w Hf fS fR L nx:=by
 have c:=h.ge;have d:=a.wb;exact⟨λn s=>by rw[cW (h.no _ (.inl (Nat.le_refl _)))];exact a.no n s _ c,λn s=>by rw[cW (h.no _ (.inl (iQ _)))];exact a.no n s _ ae,
  λn s=>by rw[jl,h.ba _ (Nat.le_refl _),a.ba n s _ c],λn s=>by rw[nT,h.al _ (Nat.le_refl _),a.al n s _ c];rfl,
  λn s=>by rw[jl,h.ba _ (iQ _),a.ba n s _ ae],λn s=>by rw[nT,h.al _ (iQ _),a.al n s _ ae];rfl,
  λn s=>by rw[cW (h.no _ (.inr d)),a.gw],λn s m=>by rw[fU (h.no _ (.inr d)),a.sw],er.2 ae,er.2 ae,ae,ae⟩
abbrev yN(e:aF):List DV:=[.p (.int .i64 e.op),.p (.int .i64 e.n),.p (.str e.s),.p (.slice e.f (aJ e.xs))]
def Fx(p:WF b w Hf fS fR)(s:σ):∀(k:Nat) (e:aF),e.sz<=k->k<=1048576->∀(L:Heap) (nx n:Nat),sq b L nx->n<=401->
  BS tb 254 [.ptr w 0,.agg (yN e)] (L++Hf n s) nx (.tuple []) (L++Hf (JY e n) s) nx
 |0,e,f,_=>by cases e;simp[aF.sz]at f
 |k+1,e,f,B=>by
  intro L nx n h C;have g:=p.g h;have q:e.xs.length<=1048576:=by have:=bI e.xs;rw[aF.fj]at f;omega
  have l:cI e.xs<=k:=by rw[aF.fj]at f;omega
  refine cH (af:=RR) rfl rfl ?_;unfold RR;dsimp only[aj];rw[NU];by_cases r:n=0
  .subst r;rw[aq rfl];exact gN (q9 g.n0 g.n1 g.b0 g.l0 g.b1 g.l1 g.gw g.sw g.w0 g.w1 g.w2 g.w3) k0
  .rw[an r];have v:((n:Int)-1)=((n-1:Nat):Int):=ae;have x:¬(n:Int)=0:=ae;refine gN (Dw g.n0 g.n1 g.b0 g.l0 g.b1 g.l1 g.gw g.sw g.w0 g.w1 g.w2 g.w3 v x @aD) (k1 ?_);refine bU (λj t=>∃i a,i+j=e.xs.length/\a<=401/\vw e.xs (n-1)=vw (e.xs.drop i) a/\t=⟨[(0,.ptr w 0),(19,.p (.slice e.f (aJ e.xs))),(20,.p (.int .i64 e.xs.length)),(21,.p (.int .i64 i))],(nx,.var false (yN e))::(L++Hf a s),nx+1,[nx+1,nx]⟩) ?_ e.xs.length _ ⟨0,n-1,ae,ae,rfl,rfl⟩;rintro j t ⟨i,a,D,d,y,rfl⟩;refine bq Jz.eq_1 ?_;rw[y];rcases cK i e.xs.length with c|c
   .have m:(i:Int)<e.xs.length:=ae;have z:(0:Int)<=i:=ae;have u:=jh e.xs i c;rw[aF.pM]at u;have o:=(h.cons (k:=.var false (yN e))).cons (k:=.var false (yN e.xs[i]));have A:=Fx p s k e.xs[i] (dL (ja (List.getElem_mem c)) l) ae _ _ a o d;rw[List.drop_eq_getElem_cons c,vw];refine gR (IJ g.n0 g.n1 g.b0 g.l0 g.b1 g.l1 g.gw g.sw g.w0 g.w1 g.w2 g.w3 m z u @aD) trivial A (k1 ?_);exact LI.next (m':=j-1) ae ⟨i+1,_,ae,dL (GL e.xs[i] a) d,rfl,rfl⟩
   .have m:¬(i:Int)<e.xs.length:=ae;rw[List.drop_eq_nil_of_le c,vw];exact gN (mg g.n0 g.n1 g.b0 g.l0 g.b1 g.l1 g.gw g.sw g.w0 g.w1 g.w2 g.w3 m) k0
end
end
section
open Go Go.Dv
section
variable{σ:Type}
def zz(sR:σ->aF->σ)(e:aF)(x:Nat×σ):Nat×σ:=if x.1=0\/NT e=true then x else(JY e x.1,sR x.2 e)
abbrev dn(d:Int):Int:=IntKind.i64.wrap (d+1)
mutual
def DZ(sS:σ->aX->Int->σ)(sR:σ->aF->σ):aX->Int->Nat×σ->Nat×σ
 | .mk h name max a b f c g e,d,x=>oP sS sR e (dn d) (oP sS sR c (dn d) (zz sR b (zz sR a (x.1-1,sS x.2 (.mk h name max a b f c g e) d))))
def oP(sS:σ->aX->Int->σ)(sR:σ->aF->σ):List aX->Int->Nat×σ->Nat×σ
 |[],_,x=>x
 |s::r,d,x=>if x.1=0 then x else oP sS sR r d (DZ sS sR s d x)
end
structure WC(b w:Nat)(Hf:Nat->σ->Heap)(idS:FuncId)(cS:List DV)(idR:FuncId)(cR:List DV)(Inv:Nat->σ->Prop)(sS:σ->aX->Int->σ)(sR:σ->aF->σ):Prop where
 wf:WF b w Hf (.func idS cS) (.func idR cR)
 mono:∀{n m s},m<=n->Inv n s->Inv m s
 S:∀{L nx},sq b L nx->∀(n:Nat) s (st:aX) (d:Int),st.ok->st.sz<=1048576->n<401->Inv (n+1) s->BS tb idS (.agg st.d::.p (.int .i64 d)::cS) (L++Hf n s) nx (.tuple []) (L++Hf n (sS s st d)) nx
 R:∀{L nx},sq b L nx->∀(n:Nat) s (e:aF),e.ok->e.sz<=1048576->n<=401->0<n->Inv n s->BS tb idR (.agg (yN e)::cR) (L++Hf n s) nx (.tuple []) (L++Hf n (sR s e)) nx
 iS:∀{n s st d},Inv (n+1) s->Inv n (sS s st d)
 iR:∀{n s e},Inv (n+1) s->Inv n (sR s e)
variable{b w:Nat}{Hf:Nat->σ->Heap}{idS:FuncId}{cS:List DV}{idR:FuncId}{cR:List DV}{Inv:Nat->σ->Prop}{sS:σ->aX->Int->σ}{sR:σ->aF->σ}
def WO(e:aF){n:Nat}(h:n≠0):JY e n<=n-1:=by rw[NU,an h];exact CP _ _
def xX(a:WC b w Hf idS cS idR cR Inv sS sR)(e:aF){x:Nat×σ}(h:Inv x.1 x.2):Inv (zz sR e x).1 (zz sR e x).2/\(zz sR e x).1<=x.1:=by
 unfold zz;split
 .exact⟨h,Nat.le_refl _⟩
 .rename_i c;have d:x.1≠0:=λh=>c (.inl h)
  refine⟨a.mono (WO e d) (a.iR (n:=x.1-1) (by rw[LJ ae];exact h)),GL e _⟩
mutual
theorem Q9(i:WC b w Hf idS cS idR cR Inv sS sR)(s:aX)(d:Int)(x:Nat×σ)(q:x.1≠0)(h:Inv x.1 x.2):Inv (DZ sS sR s d x).1 (DZ sS sR s d x).2/\(DZ sS sR s d x).1<=x.1-1:=by
 cases s with
 |mk j name max a b f c g e=>
  rw[DZ];have k:Inv (x.1-1) (sS x.2 (.mk j name max a b f c g e) d):=i.iS (by rw[LJ ae];exact h);obtain⟨l,m⟩:=xX i a (x:=(x.1-1,sS x.2 (.mk j name max a b f c g e) d)) k;obtain⟨n,r⟩:=xX i b l;obtain⟨o,t⟩:=kT i c (dn d) _ n;obtain⟨p,u⟩:=kT i e (dn d) _ o;exact⟨p,by simp only at m;omega⟩
theorem kT(a:WC b w Hf idS cS idR cR Inv sS sR)(l:List aX)(d:Int)(x:Nat×σ)(h:Inv x.1 x.2):Inv (oP sS sR l d x).1 (oP sS sR l d x).2/\(oP sS sR l d x).1<=x.1:=by
 cases l with
 |nil=>rw[oP];exact⟨h,Nat.le_refl _⟩
 |cons s r=>
  rw[oP];split
  .exact⟨h,Nat.le_refl _⟩
  .rename_i c;obtain⟨e,g⟩:=Q9 a s d x c h;obtain⟨f,i⟩:=kT a r d _ e;exact⟨f,ae⟩
end
def D6(d:WC b w Hf idS cS idR cR Inv sS sR)(e:aF)(q:e.ok)(f:e.sz<=1048576){L:Heap}{i:Nat}(h:sq b L i)(n:Nat)(s:σ)(j:n<=401)(r:Inv n s):
  BS tb 245 [.ptr w 0,.agg (yN e)] (L++Hf n s) i (.tuple []) (L++Hf (zz sR e (n,s)).1 (zz sR e (n,s)).2) i:=by
 have g:=d.wf.g h;have a:e.xs.length<=1048576:=by have:=bI e.xs;rw[aF.fj]at f;omega
 have c:=BV e a;have l:=h.cons (k:=.var false (yN e));refine cH (af:=S5) rfl rfl ?_;unfold S5;dsimp only[aj];unfold zz;by_cases m:n=0
 .subst m;rw[aq (.inl rfl)];exact gN (q9 g.n0 g.n1 g.b0 g.l0 g.b1 g.l1 g.gw g.sw g.w0 g.w1 g.w2 g.w3) k0
 .have o:¬(n:Int)=0:=ae;cases p:NT e with
  |true=>
   rw[p]at c;rw[aq (.inr rfl)];exact gP (mg g.n0 g.n1 g.b0 g.l0 g.b1 g.l1 g.gw g.sw g.w0 g.w1 g.w2 g.w3 o) c k0
  |false=>
   rw[p]at c;rw[an (by simp[m])];have hR:=d.R l n s e q f j ae r;have t:=Fx d.wf (sR s e) e.sz e (Nat.le_refl _) f _ _ n l j;exact gR (mg g.n0 g.n1 g.b0 g.l0 g.b1 g.l1 g.gw g.sw g.w0 g.w1 g.w2 g.w3 o) c (bf hR t) k0
def pK(p:WC b w Hf idS cS idR cR Inv sS sR):∀(k:Nat) (l:List aX),dF l<k->k<=1048577->cD l->∀(f:Bool) (L:Heap) (u n:Nat) (s:σ) (d:Int),sq b L u->n<=401->Inv n s->
  BS tb 227 [.ptr w 0,.p (.slice f (bD l)),.p (.int .i64 d)] (L++Hf n s) u (.tuple []) (L++Hf (oP sS sR l d (n,s)).1 (oP sS sR l d (n,s)).2) u
 |0,l,O,_,_=>absurd O (Nat.not_lt_zero _)
 |k+1,l,O,hk,hl=>by
  intro f L u n s d h hn hi;have g:=p.wf.g h;have P:l.length<=1048576:=by have:=da l;omega
  refine cH (af:=a227) rfl rfl ?_;unfold a227;dsimp only[aj];refine gN (mg g.n0 g.n1 g.b0 g.l0 g.b1 g.l1 g.gw g.sw g.w0 g.w1 g.w2 g.w3 @aU) (k1 ?_);refine bU (λj Q=>∃i m t,i+j=l.length/\m<=401/\Inv m t/\oP sS sR l d (n,s)=oP sS sR (l.drop i) d (m,t)/\Q=⟨[(0,.ptr w 0),(2,.p (.int .i64 d)),(8,.p (.slice f (bD l))),(9,.p (.int .i64 l.length)),(10,.p (.int .i64 i))],L++Hf m t,u,[u,u]⟩) ?_ l.length _ ⟨0,n,s,ae,hn,hi,rfl,rfl⟩;rintro j Q ⟨i,m,t,hj,x4,I,hm,rfl⟩;refine bq Iv.eq_1 ?_;rw[hm];rcases cK i l.length with c|c
  .have F:(i:Int)<l.length:=ae;have R:(0:Int)<=i:=ae;have G:=kG l i c;have r:=fk hl l[i] (List.getElem_mem c);have y:=gO (List.getElem_mem c);rw[List.drop_eq_getElem_cons c,oP];generalize l[i]=q at G r y⊢;obtain⟨H,name,max,a,v,z,e,A,o⟩:=q;have B:=r;simp only[aX.ok]at r;obtain⟨_,_,_,⟨ha,J⟩,⟨hb,K⟩,M,N⟩:=r;simp only[aX.sz]at y;simp only[aX.cs]at G;by_cases S:m=0
   .subst S;rw[aq rfl];exact gN (IJ g.n0 g.n1 g.b0 g.l0 g.b1 g.l1 g.gw g.sw g.w0 g.w1 g.w2 g.w3 F R G @aU) k0
   .rw[an S];have e1:((m:Int)-1)=((m-1:Nat):Int):=ae;have e2:¬(m:Int)=0:=ae;have C:=h.cons (k:=.var false (bA H name max a v z e A o));have T:Inv (m-1+1) t:=by rw[LJ ae];exact I
    have U:=p.S C (m-1) t (.mk H name max a v z e A o) d B (by simp only[aX.sz];omega) ae T;simp only[aX.d,bA]at U;have V:Inv (m-1) (sS t (.mk H name max a v z e A o) d):=p.iS T;have W:=D6 p a ha (by simpa[iq]using J) C (m-1) _ ae V;obtain⟨X,l2⟩:=xX p a (x:=(m-1,sS t (.mk H name max a v z e A o) d)) V;simp only at l2;have D:=D6 p v hb (by simpa[iq]using K) C _ _ ae X;obtain⟨Y,l3⟩:=xX p v X;have Z:=pK p k e ae ae M z _ _ _ _ (dn d) C ae Y;obtain⟨i4,l4⟩:=kT p e (dn d) _ Y;have E:=pK p k o ae ae N A _ _ _ _ (dn d) C ae i4;obtain⟨i5,l5⟩:=kT p o (dn d) _ i4;rw[DZ];dsimp only[bA]at W D Z E;refine gR (aag g.n0 g.n1 g.b0 g.l0 g.b1 g.l1 g.gw g.sw g.w0 g.w1 g.w2 g.w3 F R G e1 e2 @aU) trivial (dM U W D Z E) (k1 ?_);exact LI.next (m':=j-1) ae ⟨i+1,_,_,ae,ae,i5,rfl,rfl⟩
  .have F:¬(i:Int)<l.length:=ae;rw[List.drop_eq_nil_of_le c,oP];exact gN (mg g.n0 g.n1 g.b0 g.l0 g.b1 g.l1 g.gw g.sw g.w0 g.w1 g.w2 g.w3 F) k0
end
end
section
open Go Go.Dv
noncomputable def Yw (i:aX) (d:Int):Int:=match i with
 | .mk h name max a b f c g e=>Classical.epsilon λr=>PS tb 199 [.agg (oI h name max a b f c g e),.int .i64 d] (.int .i64 r)/\(r=0->nd h max a b)
def Fh{i:Int}{name:ByteArray}{max:Int}{a b:aF}{f:Bool}{c:List aX}{g:Bool}{e:List aX}(h:(aX.mk i name max a b f c g e).ok)(j:c.length<=1099511627776)(k:e.length<=1099511627776)(d:Int):
  PS tb 199 [.agg (oI i name max a b f c g e),.int .i64 d] (.int .i64 (Yw (.mk i name max a b f c g e) d))/\(Yw (.mk i name max a b f c g e) d=0->nd i max a b):=by
 simp only[aX.ok]at h;obtain⟨_,n,_,⟨o,l⟩,⟨q,m⟩,_,_⟩:=h;exact j9 (p:=λr=>PS tb 199 [.agg (oI i name max a b f c g e),.int .i64 d] (.int .i64 r)/\(r=0->nd i max a b)) (QB name max a b f c g e i n o l q m j k d)
def Hv(p:List DV)(n:Nat)(s:Int):Heap:=[(3,.var false [.p (.int .i64 n),.func 198 [.ptr 1 0],.func 200 []]),(2,.var false p),(1,.var false [.p (.int .i64 s)]),(0,.var false p)]
noncomputable def GM (s:Int) (a:aX) (d:Int):Int:=if s=0 then Yw a d else s
abbrev fh(p:Pc):List DV:=[.p (.str p.name),.p (.slice p.fp (e9 p.ps)),.p (.slice p.fb (bD p.body))]
def SI(p:Pc):WF 4 3 (Hv (fh p)) (.func 198 [.ptr 1 0]) (.func 200 []) where
 wb:=ae
 gw:=λn s=>rfl
 sw:=λn s m=>rfl
 ba:=λn s c hc=>by
  have h3:3<c:=ae;have h2:2<c:=ae;have h1:1<c:=ae;have h0:0<c:=ae;simp[Hv,az,h3,h2,h1,h0]
 al:=λn s c hc=>by
  have h1:1<c:=ae;simp[Hv,cL,ca.below,below,dep,h1]
 no:=λn s c hc=>by
  have h3:¬3=c:=ae;have h2:¬2=c:=ae;have h1:¬1=c:=ae;have h0:¬0=c:=ae;simp[Hv,ah,h3,h2,h1,h0]
def D8{L H:Heap}{a:Nat}(e:aF)(b:ah H a=none)(c:az a H=H)(d:cL a H=true):BS tb 200 [.agg (yN e)] H a (.tuple []) H a:=by
 refine cH (af:=S1) rfl rfl ?_;unfold S1;dsimp only[aj];exact gN (c9 b c d) k0
def Ux(p:Pc){L:Heap}{i:Nat}(h:sq 4 L i)(n:Nat)(s:Int)(c:aX)(d:Int)(k:c.ok)(t:c.sz<=1048576):BS tb 198 [.agg c.d,.p (.int .i64 d),.ptr 1 0] (L++Hv (fh p) n s) i (.tuple []) (L++Hv (fh p) n (GM s c d)) i:=by
 have g:=(SI p).g h;obtain⟨w,name,max,a,b,f,e,x,l⟩:=c;simp only[aX.sz]at t;have y:=da e;have z:=da l;obtain⟨u,_⟩:=Fh k ae ae d;have m:∀s,ah (L++Hv (fh p) n s) 1=some (.var false [.p (.int .i64 s)]):=λs=>by rw[cW (h.no 1 (.inr ae))];rfl
 have o:∀s r,aH (L++Hv (fh p) n s) 1 (.var false [.p (.int .i64 r)])=L++Hv (fh p) n r:=λs r=>by rw[fU (h.no 1 (.inr ae))];rfl
 have v:=h.ge;have q:(i==1)=false:=er.2 ae;simp only[aX.d,bA];refine cH (af:=a198) rfl rfl ?_;unfold a198;dsimp only[aj];unfold GM;by_cases j:s=0
 .rw[aq j];exact gP (ow g.n0 g.b0 g.l0 g.b1 g.l1 m o q (aZ j)) u k0
 .rw[an j];exact gN (ow g.n0 g.b0 g.l0 g.b1 g.l1 m o q j) k0
def QZ(p:Pc):WC 4 3 (Hv (fh p)) 198 [.ptr 1 0] 200 [] (λ_ _=>True) GM (λs _=>s) where
 wf:=SI p
 mono:=λ_ h=>h
 S:=λh n s st d hst hz _ _=>Ux p h n s st d hst hz
 R:=λh n s e _ _ _ _ _=>by
  have g:=(SI p).g h;exact D8 (L:=[]) e (g.n0 n s) (g.b0 n s) (g.l0 n s)
 iS:=λ_=>trivial
 iR:=λ_=>trivial
def F3(b:Nat):sq b [] b:=⟨Nat.le_refl _,λ_ _=>rfl,λ_ _=>rfl,λ_ _=>rfl⟩
noncomputable def EI (p:Pc) (s:Int):Nat×Int:=oP GM (λs _=>s) p.body 1 (401,s)
def Pg(p:Pc)(s:Int)(b:cD p.body)(c:dF p.body<=1048576):BS tb 197 [.agg (fh p),.func 198 [.ptr 1 0],.func 200 []] [(1,.var false [.p (.int .i64 s)]),(0,.var false (fh p))] 2 (.p (.int .i64 (401-(EI p s).1))) [(1,.var false [.p (.int .i64 (EI p s).2)]),(0,.var false (fh p))] 2:=by
 have h:=pK (QZ p) 1048577 p.body ae ae b p.fb [] 4 401 s 1 (F3 4) ae trivial;have a:=(kT (QZ p) p.body 1 (401,s) trivial).2;refine cH (af:=C6) rfl rfl ?_;unfold C6;dsimp only[aj]
 change BS tb _ _ (Hv (fh p) 401 s) 4 _ (Hv (fh p) (EI p s).1 (EI p s).2) 4 at h
 change(EI p s).1<=401 at a
 generalize EI p s=x at h a⊢;simp only[Hv]at h;exact gR trivial trivial h k0;all_goals simp
mutual
def EO:aX->Prop
 | .mk e _ max a b _ c _ d=>nd e max a b/\oo c/\oo d
def oo:List aX->Prop
 |[]=>True
 |s::r=>EO s/\oo r
end
def S8(e:aF)(x:Nat×Int):(zz (λs _=>s) e x).2=x.2:=by unfold zz;split<;>rfl
mutual
theorem YT(s:aX)(i:s.ok)(o:s.sz<=1048576)(d:Int)(x:Nat×Int)(m:(DZ GM (λs _=>s) s d x).1≠0)(n:(DZ GM (λs _=>s) s d x).2=0):x.2=0/\EO s:=by
 cases s with
 |mk w name max a b f c g e=>
  simp only[aX.sz]at o;have y:=da c;have z:=da e;have p:=(Fh i ae ae d).2;have q:=i;simp only[aX.ok]at i;obtain⟨_,_,_,_,_,j,k⟩:=i;rw[DZ]at m n;obtain⟨r,t,u⟩:=Gm e k ae _ _ m n;obtain⟨A,h,v⟩:=Gm c j ae _ _ r t;rw[S8,S8]at h;simp only[GM]at h;split at h
  .rename_i l;exact⟨l,by rw[EO];exact⟨p h,v,u⟩⟩
  .rename_i l;exact absurd h l
theorem Gm(l:List aX)(e:cD l)(f:dF l<=1048576)(d:Int)(x:Nat×Int)(a:(oP GM (λs _=>s) l d x).1≠0)(b:(oP GM (λs _=>s) l d x).2=0):x.1≠0/\x.2=0/\oo l:=by
 cases l with
 |nil=>rw[oP]at a b;exact⟨a,b,by rw[oo];trivial⟩
 |cons s r=>
  simp only[cD]at e;simp only[dF]at f;rw[oP]at a b;split at a
  .rename_i c;exact absurd c a
  .rename_i c;rw[an c]at b;obtain⟨g,h,i⟩:=Gm r e.2 ae d _ a b;obtain⟨j,k⟩:=YT s e.1 ae d x g h;exact⟨c,j,by rw[oo];exact⟨k,i⟩⟩
end
structure jM(p:Pc):Prop where
 nm:p.name.size<=1048576
 pl:p.ps.length<=1048576
 pn:∀x∈p.ps,x.name.size<=1048576
 bo:cD p.body
 bz:dF p.body<=1048576
def rV(p:Pc)(h:jM p):∃r:Int,PS tb 163 [.agg (cq p)] (.int .i64 r)/\(r=0->oo p.body):=by
 have d:=uI p.name h.nm;obtain⟨k,a,_⟩:=Mp p.ps p.fp h.pl h.pn;have c:=Pg p 0 h.bo h.bz;refine mA (af:=Sv) rfl rfl ?_;unfold Sv;dsimp only[List.map,aQ,aj,cq];have b:=(kT (QZ p) p.body 1 (401,0) trivial).2
 change(EI p 0).1<=401 at b
 have e:=Gm p.body h.bo h.bz 1 (401,0)
 change(EI p 0).1≠0->(EI p 0).2=0->_ at e
 generalize EI p 0=x at c b e;by_cases g:k=0
 .subst g;by_cases f:x.2=0
  .rw[f]at c;refine hR trivial (bf d a) c (k3 ?_ ?_ ?_)<;>(repeat with_reducible intro i)
   all_goals exact⟨⟨_,by intro j;first|omega|contradiction|exact(e ae f).2.2⟩,rfl⟩
  .refine hR f (bf d a) c (k2 ?_ ?_)<;>(repeat with_reducible intro i)
   all_goals exact⟨⟨_,by intro j;first|omega|contradiction⟩,rfl⟩
 .refine hP g (bf d a) (k2 ?_ ?_)<;>(repeat with_reducible intro i)
  all_goals exact⟨⟨_,by intro j;first|omega|contradiction⟩,rfl⟩
end
end Go.Dv.Tryz
