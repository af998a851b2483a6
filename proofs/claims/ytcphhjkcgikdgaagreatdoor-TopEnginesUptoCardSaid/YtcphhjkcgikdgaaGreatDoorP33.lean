/- Lemmas for the law of this claim. -/
import Derived.Test.YtcphhjkcgikdgaaGreatDoorP32
set_option linter.all false
set_option maxRecDepth 100000
set_option maxHeartbeats 8000000
namespace Go.Dv.Tryz
section
open Go Go.Dv
def uQ(n:Nat):(0<n+1)=True:=bU (Nat.succ_pos n)
def ss(x:PV):bT 1 [[x]]=true:=rfl
def kE(l:List Ft):List (List PV):=l.map jZ
def lX(l:List Ft):(kE l).length=l.length:=by simp[kE]
def Du(l:List Ft)(i:Nat)(h:i<l.length):(kE l)[i]?=some [.bool l[i].all,.slice l[i].br (aF l[i].r),.slice l[i].bw (aF l[i].w)]:=by simp[kE,h,jZ]
abbrev iC(l:List Ft)(i:Nat):Ft:=jI (l.getD i ⟨false,true,[],true,[]⟩)
def qD(l:List Ft)(j m:Nat):List Nat:=(List.range m).filter λi=>uq (iC l i) (iC l j)
def Qo(l:List Ft)(j m:Nat):qD l j (m+1)=qD l j m++if uq (iC l m) (iC l j)then[m]else[]:=by
 unfold qD;rw[List.range_succ,List.filter_append];congr 1;by_cases h:uq (iC l m) (iC l j)=true<;>simp[h]
def Di(l:List Ft)(j m:Nat):(qD l j m).length<=m:=by
 have:=List.length_filter_le (λi=>uq (iC l i) (iC l j)) (List.range m);simpa[qD]using this
def lj(l:List Ft)(n:Nat):List (List PV):=(List.range n).map λj=>[.slice false (dW (qD l j j))]
def lZ(l:List Ft)(n:Nat):(lj l n).length=n:=by simp[lj]
def Nc(l:List Ft)(n j:Nat)(h:j<n):(lj l n)[j]?=some [.slice false (dW (qD l j j))]:=by simp[lj,h]
def JT(l:List Ft)(n:Nat):lj l n++[[.slice false (dW (qD l n n))]]=lj l (n+1):=by simp[lj,List.range_succ]
structure GB(n0:Nat)(G:Heap)(y:Nat):Prop where
 get:∀B id,id<n0->ag (G++B) id=ag B id
 set:∀B id b,id<n0->aC (G++B) id b=G++aC B id b
 top:∀B,nb B=n0->nb (G++B)=y+n0
 zQ:∀B c,y+n0<=c->aD c (G++B)=G++aD c B
 all:∀B c,de c (G++B)=de c B
def GB.nil(a:Nat):GB a [] 0:=⟨λ_ _ _=>rfl,λ_ _ _ _=>rfl,λB h=>by simpa using h,λ_ _ _=>rfl,λ_ _=>rfl⟩
def GB.cons{n0:Nat}{G:Heap}{y:Nat}(h:GB n0 G y)(f:Bool)(z:Nat)(xs:List (List PV)):GB n0 ((y+n0,.row f z xs)::G) (y+1) where
 get B id hi:=by rw[List.cons_append,aw,ak ae];exact h.get B id hi
 set B id b hi:=by
  have e:(y+n0==id)=false:=fy.2 ae;simp only[List.cons_append,aC,e,Bool.false_eq_true,cK,h.set B id b hi]
 top B hB:=by
  simp only[List.cons_append,nb,h.top B hB];omega
 zQ B c hc:=by
  simp only[List.cons_append,aD];rw[aq ae,h.zQ B c ae]
 all B c:=by simp[de,bq.below,h.all B c]
def JZ{f:Ft}(h:oO f):oO (jI f):=by
 unfold jI;split
 .exact h
 .exact⟨⟨az,az⟩,⟨az,az⟩⟩
def TK(G:Heap)(y:Nat)(h:GB 1 G y)(l:List Ft)(b:Bool)(P:l.length<=1048576)(v:∀f∈l,oO f)(j:Nat)(p:j<l.length)(R:Ex->St->Prop)
  (hR:R (.exit 2) ⟨[(0,.p (.slice b (kE l))),(3,.ref 0 j 0 j),(5,.ref (y+1) (qD l j j).length 0 (qD l j j).length),(8,.p (.int .i64 l.length)),(9,.p (.int .i64 j))],(y+1,.row false 1 (dW (qD l j j)))::(G++[(0,.row false 1 (lj l j))]),y+2,[0]⟩):
  W tb (.loop HZ) ⟨[(0,.p (.slice b (kE l))),(3,.ref 0 j 0 j),(4,.p (.int .i64 j)),(5,.ref (y+1) 0 0 0),(8,.p (.int .i64 l.length)),(9,.p (.int .i64 j)),(12,.p (.int .i64 j)),(13,.p (.int .i64 0))],(y+1,.row false 1 [])::(G++[(0,.row false 1 (lj l j))]),y+2,[0]⟩ R:=by
 refine bL (λm w=>∃i:Nat,i+m=j/\w=⟨[(0,.p (.slice b (kE l))),(3,.ref 0 j 0 j),(4,.p (.int .i64 j)),(5,.ref (y+1) (qD l j i).length 0 (qD l j i).length),(8,.p (.int .i64 l.length)),(9,.p (.int .i64 j)),(12,.p (.int .i64 j)),(13,.p (.int .i64 i))],(y+1,.row false 1 (dW (qD l j i)))::(G++[(0,.row false 1 (lj l j))]),y+2,[0]⟩) ?_ j _ ⟨0,ae,rfl⟩;rintro m w ⟨i,Q,rfl⟩;refine aH HZ.eq_1 ?_;have q:=h.get;have r:=h.set;have s:∀b,nb (G++[(0,b)])=y+1:=λb=>h.top _ rfl
 have t:=h.zQ;have u:=h.all;rcases bS i j with c|c
 .have k:(i:Int)<j:=ae;have x:(0:Int)<=i:=ae;have z:(0:Int)<=j:=ae;have A:(i:Int)<l.length:=ae;have B:(j:Int)<l.length:=ae;have d:i<l.length:=ae;have C:=Du l i d;have D:=Du l j p;have E:=v _ (List.getElem_mem d);have F:=v _ (List.getElem_mem p);have n:=OL l[i] E;have o:=OL l[j] F;have g:=JS (jI l[i]) (jI l[j]) (JZ E) (JZ F);have I:iC l i=jI l[i]:=by simp[iC,List.getD_eq_getElem?_getD,d]
  have J:iC l j=jI l[j]:=by simp[iC,List.getD_eq_getElem?_getD,p]
  have a:=Qo l j i;rw[I,J]at a;have K:=Di l j i;have L:((qD l j i).length+1)*8<=an:=by simp only[an];omega
  have M:(qD l j i).length+1<=an:=by simp only[an];omega
  have H:=q7 (qD l j i) i;generalize jI l[i]=N at n g a;generalize jI l[j]=O at o g a;dsimp only[jZ]at n o g;cases e:uq N O with
  |true=>
   rw[e]at g;rw[e,aq rfl]at a;rw[<-a]at H;refine gP (R3 k x z A B C D @lX @c7 L M H ss q r s t u qn uQ) (dS n o g) (k1 ?_);refine LI.next (m':=m-1) ae ⟨i+1,ae,?_⟩;have:(qD l j (i+1)).length=(qD l j i).length+1:=by rw[a];simp
   rw[this]
  |false=>
   rw[e]at g;rw[e,ak az,List.append_nil]at a;refine gP (DF k x z A B C D @lX @c7 q r s t u qn uQ) (dS n o g) (k1 ?_);refine LI.next (m':=m-1) ae ⟨i+1,ae,?_⟩;rw[a]
 .have k:¬(i:Int)<j:=ae;obtain rfl:i=j:=ae;refine gN (xI k q r s t u qn uQ) (k1 ?_);exact hR
def UG(l:List Ft)(b:Bool)(q:l.length<=1048576)(r:∀f∈l,oO f):PS tb 22 [.slice b (kE l)] (.slice false (lj l l.length)):=by
 refine bD (af:=a22) rfl rfl ?_;unfold a22;dsimp only[List.map,aI,ai];refine gN @lX (k1 ?_);refine bL (λm p=>∃(j:Nat) (G:Heap) (y:Nat),GB 1 G y/\j+m=l.length/\p=⟨[(0,.p (.slice b (kE l))),(3,.ref 0 j 0 j),(8,.p (.int .i64 l.length)),(9,.p (.int .i64 j))],G++[(0,.row false 1 (lj l j))],y+1,[0]⟩) ?_ l.length _ ⟨0,[],0,GB.nil 1,ae,rfl⟩;rintro m p ⟨j,G,y,a,v,rfl⟩;refine aH OS.eq_1 ?_;have e:=a.get;have g:=a.set;have h:∀b,nb (G++[(0,b)])=y+1:=λb=>a.top _ rfl
 have i:=a.zQ;have k:=a.all;rcases bS j l.length with c|c
 .have n:(j:Int)<l.length:=ae;have o:=JT l j;have s:=Di l j j;have d:=Lk (qD l j j) _ rfl;have t:(j+1)*24<=an:=by simp only[an];omega
  have u:j+1<=an:=by simp only[an];omega
  refine gN (xI n e g h i k qn uQ) (k1 ?_);refine TK G y a l b q r j c _ ?_;refine gN (K3 @lZ @c7 t u o d ss e g h i k qn uQ) (k1 ?_);refine LI.next (m':=m-1) ae ⟨j+1,_,_,a.cons _ _ _,ae,rfl⟩
 .have n:¬(j:Int)<l.length:=ae;obtain rfl:j=l.length:=ae;have d:(lj l l.length).take l.length=lj l l.length:=List.take_of_length_le (by rw[lZ];omega);exact gN (o9 n @lZ d e g h i k qn uQ) k0
end
section
open Go Go.Dv
noncomputable def Zc (s:ByteArray):Int:=Classical.choose (Iy s)
def Rx(s:ByteArray):PS tb 223 [.str s] (.int .i64 (Zc s)):=(Ec (Iy s)).1
noncomputable def Tu (a:Int):Int:=Classical.choose (AP a)
def WE(a:Int):PS tb 264 [.int .i64 a] (.int .i64 (Tu a)):=(Ec (AP a)).1
def U3{a:Int}(h:10<=a/\a<=15\/22<=a/\a<=24):Tu a=if a<=15 then 2 else 1:=(Ec (AP a)).2 h
def Nw(s:ByteArray)(k:s.size<=1048576):∃b,PS tb 195 [.str s] (.bool b)/\True:=by
 have a:=Rx s;have d:=RB s;refine uI (af:=TP) rfl rfl ?_;unfold TP;dsimp only[List.map,aI,ai];by_cases e:s=⟨#[]⟩
 .refine gN (bU e) (k1 ?_);all_goals exact⟨⟨_,trivial⟩,rfl⟩
 .have f:0<s.size:=by
   rcases pO s.size with h|h
   .exact absurd ((wu s).2 h) e
   .exact h
  obtain⟨c,g⟩:=byte_at s 0 f;have i:=c.toNat_lt;refine hP (bA e g) (dS a d (λ{j}=>Bl j)) (k4 ?_ ?_ ?_ ?_)<;>(repeat with_reducible intro l)
  all_goals exact⟨⟨_,trivial⟩,rfl⟩
noncomputable def isN (s:ByteArray):Bool:=Classical.epsilon λb=>PS tb 195 [.str s] (.bool b)
def vA(s:ByteArray)(a:s.size<=1048576):PS tb 195 [.str s] (.bool (isN s)):=od (p:=λb=>PS tb 195 [.str s] (.bool b)) (let⟨b,h,_⟩:=Nw s a;⟨b,h⟩)
def O9(e:bj):Bool:=decide (e.op=0)&&decide (e.n=0)&&decide (e.s=E)&&decide (e.xs.length=0)
def De(e:bj)(b:e.xs.length<=1048576):PS tb 246 [.agg [.int .i64 e.op,.int .i64 e.n,.str e.s,.slice e.f (cn e.xs)]] (.bool (O9 e)):=by
 have a:decide ((e.xs.length:Int)=0)=decide (e.xs.length=0):=wD.2 ae;refine bD (af:=SR) rfl rfl ?_;unfold SR;dsimp only[List.map,aI,ai];unfold O9;generalize c:decide (e.xs.length=0)=q at a⊢;exact gN (bA @bB a) k0;all_goals simp_all
def VP(e:bj)(l:e.s.size<=1048576)(m:e.xs.length<=1048576)(d:Int):∃n:Int,PS tb 255 [.agg [.int .i64 e.op,.int .i64 e.n,.str e.s,.slice e.f (cn e.xs)],.int .i64 d] (.int .i64 n)/\(n=0->(e.xs.length:Int)=Tu e.op):=by
 have g:=WE e.op;have i:=vA e.s l;have j:=L4 e.s l;refine mr (af:=UY) rfl rfl ?_;unfold UY;dsimp only[List.map,aI,ai];by_cases f:e.op=1
 .have c:¬e.op=2:=ae;have b:¬e.op=3:=ae;repeat'(first|exact g|exact i|exact j|(simp(disch:=omega) only[go_sem,seval,reduceCtorEq,bB,bU f,c,b])|with_reducible exact Ev.mk|apply cT|((first|apply aY|apply aQ)<;>intro a k<;>(simp(disch:=omega) only[go_sem,seval,reduceCtorEq,bB,bU f,c,b,a])<;>clear a))
  all_goals exact⟨⟨_,by intro h;first|omega|contradiction⟩,rfl⟩
 by_cases c:e.op=2
 .have b:¬e.op=3:=ae;repeat'(first|exact g|exact i|exact j|(simp(disch:=omega) only[go_sem,seval,reduceCtorEq,bB,f,bU c,b])|with_reducible exact Ev.mk|apply cT|((first|apply aY|apply aQ)<;>intro a k<;>(simp(disch:=omega) only[go_sem,seval,reduceCtorEq,bB,f,bU c,b,a])<;>clear a))
  all_goals exact⟨⟨_,by intro h;first|omega|contradiction⟩,rfl⟩
 by_cases b:e.op=3
 .repeat'(first|exact g|exact i|exact j|(simp(disch:=omega) only[go_sem,seval,reduceCtorEq,bB,f,c,bU b])|with_reducible exact Ev.mk|apply cT|((first|apply aY|apply aQ)<;>intro a k<;>(simp(disch:=omega) only[go_sem,seval,reduceCtorEq,bB,f,c,bU b,a])<;>clear a))
  all_goals exact⟨⟨_,by intro h;first|omega|contradiction⟩,rfl⟩
 .repeat'(first|exact g|exact i|exact j|(simp(disch:=omega) only[go_sem,seval,reduceCtorEq,bB,f,c,b])|with_reducible exact Ev.mk|apply cT|((first|apply aY|apply aQ)<;>intro a k<;>(simp(disch:=omega) only[go_sem,seval,reduceCtorEq,bB,f,c,b,a])<;>clear a))
  all_goals exact⟨⟨_,by intro h;first|omega|contradiction⟩,rfl⟩
end
section
open Go Go.Dv
mutual
def Ar:bj->Prop
 | .mk b _ _ _ a=>(a.length:Int)=Tu b/\Pn a
def Pn:List bj->Prop
 |[]=>True
 |e::r=>Ar e/\Pn r
end
def Cw:∀{l:List bj},Pn l↔∀e∈l,Ar e
 |[]=>by simp[Pn]
 |x::r=>by simp only[Pn,Cw,List.mem_cons,forall_eq_or_imp]
def bj.aaI{e:bj}(h:e.ok):e.s.size<=1048576:=by cases e;simp only[bj.ok]at h;exact h.2.2.1
def bj.ZM{e:bj}(h:e.ok):lu e.xs:=by cases e;simp only[bj.ok]at h;exact h.2.2.2
def bj.gj(e:bj):e.sz=1+dE e.xs:=by cases e;simp only[bj.sz,bj.xs]
def Tk(e:bj):Ar e↔(e.xs.length:Int)=Tu e.op/\Pn e.xs:=by cases e;simp only[Ar,bj.xs,bj.op]
def lE:∀{l:List bj} {e:bj},e∈l->e.sz<=dE l
 |x::r,e,h=>by
  simp only[dE];rcases List.mem_cons.1 h with rfl|h
  .omega
  .have:=lE h;omega
def Dc:∀(n:Nat) (e:bj),e.sz<=n->n<=1048576->e.ok->∀d:Int,∃r:Int,PS tb 247 [.agg [.int .i64 e.op,.int .i64 e.n,.str e.s,.slice e.f (cn e.xs)],.int .i64 d] (.int .i64 r)/\(r=0->Ar e)
 |0,e,b,_,_=>by cases e;simp[bj.sz]at b
 |n+1,e,b,D,u=>by
  intro d;have a:e.xs.length<=1048576:=by have:=bQ e.xs;rw[bj.gj]at b;omega
  obtain⟨v,w,m⟩:=VP e (bj.aaI u) a d;refine mr (af:=TR) rfl rfl ?_;unfold TR;dsimp only[List.map,aI,ai];by_cases f:v=0
  .have C:=m f;refine gP (bA @bB (bU f)) w (k1 ?_);have o:dE e.xs<=n:=by rw[bj.gj]at b;omega
   have p:=bj.ZM u;refine bL (λj y=>∃(i z:Nat),i+j=e.xs.length/\(∀x∈e.xs.take i,Ar x)/\y=⟨[(1,.p (.int .i64 d)),(16,.p (.slice e.f (cn e.xs))),(17,.p (.int .i64 e.xs.length)),(18,.p (.int .i64 i))],[],z,[0]⟩) ?_ e.xs.length _ ⟨0,1,ae,az,rfl⟩;rintro j y ⟨i,z,E,q,rfl⟩;refine aH Kr.eq_1 ?_;rcases bS i e.xs.length with c|c
   .have g:(i:Int)<e.xs.length:=ae;have A:(0:Int)<=i:=ae;have s:=kT e.xs i c;rw[bj.As]at s;obtain⟨r,B,t⟩:=Dc n e.xs[i] (ep (lE (List.getElem_mem c)) o) ae (uk p _ (List.getElem_mem c)) (IntKind.i64.wrap (d+1));by_cases k:r=0
    .refine gP (dP g A @bB s (bU k)) B (k1 ?_);all_goals first
      |contradiction
      |(refine LI.next (m':=j-1) ae ⟨i+1,0,ae,?_,rfl⟩
        intro x l;rw[List.take_succ_eq_append_getElem c,List.mem_append,List.mem_singleton]at l;rcases l with l|rfl
        .exact q x l
        .exact t k)
    .refine gP (dP g A @bB s k) B (k1 ?_);all_goals first
      |contradiction
      |exact⟨⟨r,λh=>absurd h k⟩,rfl⟩
   .have g:¬(i:Int)<e.xs.length:=ae;refine gN g (k1 ?_);refine⟨⟨0,λ_=>?_⟩,rfl⟩;rw[List.take_of_length_le c]at q;exact(Tk e).2 ⟨C,Cw.2 q⟩
  .refine gP (bA @bB f) w (k1 ?_);all_goals first
    |contradiction
    |exact⟨⟨v,λh=>absurd h f⟩,rfl⟩
def j8(e:bj)(a:e.ok)(b:e.sz<=1048576):∃r:Int,PS tb 230 [.agg [.int .i64 e.op,.int .i64 e.n,.str e.s,.slice e.f (cn e.xs)]] (.int .i64 r)/\(r=0->Ar e):=by
 obtain⟨r,c,d⟩:=Dc e.sz e (Nat.le_refl _) b a 1;refine⟨r,?_,d⟩;refine bD (af:=U2) rfl rfl ?_;unfold U2;dsimp only[List.map,aI,ai];exact gP trivial c k0
end
end Go.Dv.Tryz
