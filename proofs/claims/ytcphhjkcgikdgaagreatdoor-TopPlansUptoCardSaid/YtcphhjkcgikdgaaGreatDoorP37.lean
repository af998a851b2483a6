/- Lemmas for the law of this claim. -/
import Derived.Test.YtcphhjkcgikdgaaGreatDoorP31
import Derived.Test.YtcphhjkcgikdgaaGreatDoorP36
import Derived.Test.YtcphhjkcgikdgaaGreatDoorP32
import Derived.Test.YtcphhjkcgikdgaaGreatDoorP29
import Derived.Test.YtcphhjkcgikdgaaGreatDoorP34
set_option linter.all false
set_option maxRecDepth 100000
set_option maxHeartbeats 8000000
namespace Go.Dv.Tryz
section
open Go Go.Dv
def Qd(a b c d e f g h:PV):bV 8 [[a,b,c,d,e,f,g,h]]=true:=rfl
def Ka(l:List Ef)(e:Ef):iP l++[[.int .i64 e.st,.int .i64 e.code,.slice e.fo (bF e.out),.slice e.fr (aA e.reads),.slice e.fp (aA e.cm),.slice e.fw (bm e.writes),.str e.Of,.int .i64 e.steps]]=iP (l++[e]):=by simp[iP,od]
def ti(l:List Tx)(i:Nat)(h:i<l.length):(fK l)[i]?=some [.int .i64 l[i].id,.str l[i].proc,.slice l[i].fa (bF l[i].args),.bool l[i].eT.all,.slice l[i].eT.br (aA l[i].eT.r),.slice l[i].eT.bw (aA l[i].eT.w),.int .i64 l[i].X8]:=Mm l i h
structure Ac(procs:List Pc)(l:List Tx):Prop where
 len:l.length<=1048576
 ok:∀t∈l,Dy procs t
def qb:∀(l w:List Pr),(dm l w).length<=l.length+w.length
 |[],c=>by
  rw[dm];induction c with
  |nil=>simp
  |cons b r d=>rw[List.flatMap_cons,List.length_append,List.length_cons];have:=yG b;simp only[List.length_nil]at d⊢;omega
 |a::l,[]=>by rw[dm];simp
 |a::l,b::c=>by
  have e:=yG b;rw[dm];split
  .have:=qb l (b::c);simp only[List.length_cons]at this⊢;omega
  .split
   .have:=qb (a::l) c;simp only[List.length_cons,List.length_append]at this⊢;omega
   .have:=qb l c;simp only[List.length_cons,List.length_append]at this⊢;omega
termination_by l w=>l.length+w.length
section
variable{procs:List Pc}{s:List Pr}{l:List Tx}
def ra(h:Ac procs l)(b:s.length<=1048576/\∀p∈s,cQ p.v):∀n,n<=l.length->(ij procs l s n).length<=1048576+n*16385/\ka (ij procs l s n)
 |0,_=>⟨by simpa[ij]using b.1,⟨by have:=b.1;simp only[ij];omega,b.2⟩⟩
 |n+1,g=>by
  obtain⟨i,c⟩:=ra h b n ae;have e:gx l n∈l:=by
   rw[show gx l n=l[n]'ae by simp[gx,List.getD_eq_getElem?_getD,show n<l.length by omega]];exact List.getElem_mem _
  have d:=Ak (h.ok _ e) c;have j:=h.len;have f:(jO (ij procs l s n) (kj procs (gx l n) (ij procs l s n))).length<=(ij procs l s n).length+16385/\∀p∈jO (ij procs l s n) (kj procs (gx l n) (ij procs l s n)),cQ p.v:=by
   unfold jO;split
   .refine⟨?_,λp a=>?_⟩
    .have:=qb (ij procs l s n) (kj procs (gx l n) (ij procs l s n)).writes;have:=d.wl;omega
    .rcases gL a with a|⟨a,_⟩
     .exact c.vs p a
     .exact d.wv p a
   .exact⟨GJ _ _,c.vs⟩
  refine⟨by show(jO _ _).length<=_;omega,⟨by show(jO _ _).length<=_;omega,f.2⟩⟩
def Fi(i:Nat)(h:i<l.length):gx l i=l[i]:=by simp[gx,List.getD_eq_getElem?_getD,h]
end
def TV(procs:List Pc)(b:Bool):PS tb 34 [.slice b (fY procs)] (.agg [.func 66 [.eN [.slice b (fY procs)]]]):=by
 refine bM (af:=YN) rfl rfl ?_;unfold YN;dsimp only[List.map,aQ,aj];exact gN bC k0;all_goals rfl
def PK{procs:List Pc}{t:Tx}(h:Dy procs t){s:List Pr}(d:ka s)(b c:Bool):PS tb 66 [.slice c (bm s),.agg (qJ t),.eN [.slice b (fY procs)]] (.tuple [.slice false (bm (jO s (kj procs t s))),.agg (od (kj procs t s))]):=by
 have a:=N9 h d b c;generalize kj procs t s=e at a⊢;refine bM (af:=YK) rfl rfl ?_;unfold YK;dsimp only[List.map,aQ,aj,qJ];dsimp only[qJ,od]at a;refine gP trivial a (k1 ?_);all_goals rfl
def Nq(procs:List Pc)(s:List Pr)(l:List Tx)(b c d:Bool)(h:Ac procs l)(t:s.length<=1048576/\∀p∈s,cQ p.v):∃f:Bool,PS tb 35 [.agg [.func 66 [.eN [.slice b (fY procs)]]],.slice c (bm s),.slice d (fK l)] (.tuple [.slice f (bm (ij procs l s l.length)),.slice false (iP ((List.range l.length).map (jo procs l s)))]):=by
 have C:=h.len;have w:W tb SD.body {env:=aj 0 ([PV.agg [.func 66 [.eN [.slice b (fY procs)]]],.slice c (bm s),.slice d (fK l)].map aQ),heap:=[],next:=0,marks:=[0]} (ic SD.results λv g=>∃f:Bool,bE g.heap dep v=some (.tuple [.slice f (bm (ij procs l s l.length)),.slice false (iP ((List.range l.length).map (jo procs l s)))])):=by
  unfold SD;dsimp only[List.map,aQ,aj];refine gN @eJ (k1 ?_);refine bU (λj g=>∃(i:Nat) (f:Bool),i+j=l.length/\g=⟨[(1,.p (.slice f (bm (ij procs l s i)))),(3,.ptr 0 0),(8,.ref 1 i 0 i),(12,.p (.slice d (fK l))),(13,.p (.int .i64 l.length)),(14,.p (.int .i64 i))],[(1,.row false 8 (iP ((List.range i).map (jo procs l s)))),(0,.var false [.p (.func 66 [.eN [.slice b (fY procs)]])])],2,[0]⟩) ?_ l.length _ ⟨0,c,ae,rfl⟩;rintro j g ⟨i,f,D,rfl⟩;refine bq N3.eq_1 ?_;rcases cK i l.length with k|k
  .have n:(i:Int)<l.length:=ae;have u:(0:Int)<=i:=ae;have x:=ti l i k;have y:=(ra h t i ae).2;have m:=PK (h.ok _ (List.getElem_mem k)) y b f;have e:=Ka ((List.range i).map (jo procs l s)) (jo procs l s i);have z:(List.range i).map (jo procs l s)++[jo procs l s i]=(List.range (i+1)).map (jo procs l s):=by simp[List.range_succ]
   rw[z]at e;have o:jo procs l s i=kj procs l[i] (ij procs l s i):=by rw[<-Fi i k];rfl
   rw[<-o]at m;have q:ij procs l s (i+1)=jO (ij procs l s i) (jo procs l s i):=rfl;have a:(iP ((List.range i).map (jo procs l s))).length=i:=by rw[qx,List.length_map,List.length_range]
   have A:(i+1)*136<=ak:=by simp only[ak];omega
   have B:i+1<=ak:=by simp only[ak];omega
   rw[<-q]at m;dsimp only[qJ,od]at m;refine gP (ow n u x @eJ A B a e @Qd) m (k1 ?_);exact LI.next (m':=j-1) ae ⟨i+1,false,ae,by rw[List.range_succ]⟩
  .have n:¬(i:Int)<l.length:=ae;obtain rfl:i=l.length:=ae;have a:(iP ((List.range l.length).map (jo procs l s))).length=l.length:=by rw[qx,List.length_map,List.length_range]
   have r:(iP ((List.range l.length).map (jo procs l s))).take l.length=iP ((List.range l.length).map (jo procs l s)):=List.take_of_length_le ae;refine gN (c9 n a r) (k1 ?_);all_goals exact⟨_,rfl⟩
 obtain⟨f,h⟩:=nq (T:=tb) (f:=35) (af:=SD) rfl rfl w;exact⟨f,h⟩
def D3(procs:List Pc)(s:List Pr)(l:List Tx)(b c d:Bool)(h:Ac procs l)(a:s.length<=1048576/\∀p∈s,cQ p.v):PS tb 12 [.slice b (fY procs),.slice c (bm s),.slice d (fK l)] (.tuple [.slice false (bm (ij procs l s l.length)),.slice false (iP ((List.range l.length).map (jo procs l s)))]):=by
 obtain⟨f,e⟩:=Nq procs s l b c d h a;have g:=TV procs b;have i:=C0 (ij procs l s l.length) f (ra h a _ (Nat.le_refl _)).2.len;refine bM (af:=a12) rfl rfl ?_;unfold a12;dsimp only[List.map,aQ,aj];exact gP trivial (c9 g e i) k0;all_goals rfl
end
section
open Go Go.Dv
def jJ{n:Nat}(h:n<=1000):n<=ak:=by unfold ak;omega
section
variable{P:List (List PV)}{x0 x1 x2 x6:PV}
def JR(P:List (List PV))(x0 x1 x2 x6:PV):Prop:=∀c,PS tb 18 [.slice true P,.slice c [],.agg [x0,x1,x2,.bool false,.slice true [],.slice true [[.str ⟨#[97]⟩]],x6]] (.tuple [.slice false [[.str ⟨#[97]⟩,.int .i64 1,.int .i64 1,.str ⟨#[]⟩]],.agg [.int .i64 1,.int .i64 0,.slice false [],.slice false [],.slice false [[.str ⟨#[97]⟩]],.slice false [[.str ⟨#[97]⟩,.int .i64 1,.int .i64 1,.str ⟨#[]⟩]],.str ⟨#[]⟩,.int .i64 1]])
def R9(h:JR P x0 x1 x2 x6):PS tb 28 [.slice true P,.slice true [],.slice true [[x0,x1,x2,.bool false,.slice true [],.slice true [[.str ⟨#[97]⟩]],x6]]] (.slice false [[.int .i64 1,.int .i64 0,.slice false [],.slice false [],.slice false [[.str ⟨#[97]⟩]],.slice false [[.str ⟨#[97]⟩,.int .i64 1,.int .i64 1,.str ⟨#[]⟩]],.str ⟨#[]⟩,.int .i64 1]]):=by
 have c:=h true;have d:bV 8 [[.int .i64 1,.int .i64 0,.slice false [],.slice false [],.slice false [[.str ⟨#[97]⟩]],.slice false [[.str ⟨#[97]⟩,.int .i64 1,.int .i64 1,.str ⟨#[]⟩]],.str ⟨#[]⟩,.int .i64 1]]=true:=rfl;have a:bV 1 [[PV.int .i64 0]]=true:=rfl;have b:bV 3 [[PV.bool false,.slice true [],.slice true [[.str ⟨#[97]⟩]]]]=true:=rfl;have e:136<=ak:=jJ ae;have f:1<=ak:=jJ ae;have g:112<=ak:=jJ ae;have i:48<=ak:=jJ ae;have j:56<=ak:=jJ ae;have k:8<=ak:=jJ ae;have l:16<=ak:=jJ ae;have m:40<=ak:=jJ ae;refine bM (af:=a28) rfl rfl ?_;unfold a28;dsimp only[List.map,aQ,aj];refine gN trivial (k1 ?_);refine dY ?_;refine bq HT.eq_1 ?_;refine gP (j0 d a b e f g i j k l m) c (k1 ?_);refine rn (dY ?_);refine bq HT.eq_1 ?_;exact gN trivial k0
def OM(b:Bool):PS tb 30 [.slice b [],.slice false [[.str ⟨#[97]⟩,.int .i64 1,.int .i64 1,.str ⟨#[]⟩]]] (.tuple [.slice false [[.str ⟨#[97]⟩,.int .i64 1,.int .i64 1,.str ⟨#[]⟩]],.int .i64 0]):=⟨60,jK⟩
def R5(b:Bool):PS tb 29 [.agg [.int .i64 1,.int .i64 0,.slice false [],.slice false [],.slice false [[.str ⟨#[97]⟩]],.slice false [[.str ⟨#[97]⟩,.int .i64 1,.int .i64 1,.str ⟨#[]⟩]],.str ⟨#[]⟩,.int .i64 1],.slice b []] (.bool true):=⟨60,jK⟩
def Wp(h:JR P x0 x1 x2 x6):PS tb 7 [.slice true P,.slice true [],.slice true [[x0,x1,x2,.bool false,.slice true [],.slice true [[.str ⟨#[97]⟩]],x6]]] (.tuple [.slice false [[.str ⟨#[97]⟩,.int .i64 1,.int .i64 1,.str ⟨#[]⟩]],.slice false [[.int .i64 1,.int .i64 0,.slice false [],.slice false [],.slice false [[.str ⟨#[97]⟩]],.slice false [[.str ⟨#[97]⟩,.int .i64 1,.int .i64 1,.str ⟨#[]⟩]],.str ⟨#[]⟩,.int .i64 1]],.slice false [[.bool false]]]):=by
 have m:=R9 h;have n:=OM;have o:=R5;have p:bV 8 [[.int .i64 1,.int .i64 0,.slice false [],.slice false [],.slice false [[.str ⟨#[97]⟩]],.slice false [[.str ⟨#[97]⟩,.int .i64 1,.int .i64 1,.str ⟨#[]⟩]],.str ⟨#[]⟩,.int .i64 1]]=true:=rfl;have a:bV 1 [[PV.int .i64 0]]=true:=rfl;have b:bV 3 [[PV.bool false,.slice true [],.slice true [[.str ⟨#[97]⟩]]]]=true:=rfl;have c:136<=ak:=jJ ae;have d:1<=ak:=jJ ae;have e:112<=ak:=jJ ae;have f:48<=ak:=jJ ae;have g:56<=ak:=jJ ae;have i:8<=ak:=jJ ae;have j:16<=ak:=jJ ae;have k:40<=ak:=jJ ae;refine bM (af:=a7) rfl rfl ?_;unfold a7;dsimp only[List.map,aQ,aj];refine gP (j0 p a b c d e f g i j k) m (k1 ?_);refine dY ?_;refine bq Nn.eq_1 ?_;refine gP (pL a b c d e f g i j k) (bf (λ{l}=>o l) (λ{l}=>n l)) (k1 ?_);refine rn (dY ?_);refine bq Nn.eq_1 ?_;exact gN (pL a b c d e f g i j k) k0
def OB:PS tb 16 [.agg [.bool false,.slice true [],.slice true [[.str ⟨#[97]⟩]]]] (.agg [.bool false,.slice true [],.slice true [[.str ⟨#[97]⟩]]]):=⟨60,jK⟩
def WA:PS tb 15 [.agg [.slice true [],.slice true []],.int .i64 0,.agg [.bool false,.slice true [],.slice true [[.str ⟨#[97]⟩]]]] (.tuple [.agg [.slice false [[.int .i64 0,.bool false]],.slice false [[.str ⟨#[97]⟩,.slice false [[.int .i64 0,.bool true]]]]],.int .i64 0]):=⟨60,jK⟩
def Qj:PS tb 20 [.agg [.slice false [[.int .i64 0,.bool false]],.slice false [[.str ⟨#[97]⟩,.slice false [[.int .i64 0,.bool true]]]]]] (.slice false [[.int .i64 0]]):=⟨60,jK⟩
def LU:PS tb 21 [.slice true [],.int .i64 0,.int .i64 1] (.int .i64 0):=⟨60,jK⟩
def Wt:PS tb 19 [.agg [.slice false [[.int .i64 0,.bool false]],.slice false [[.str ⟨#[97]⟩,.slice false [[.int .i64 0,.bool true]]]]],.int .i64 0] (.tuple [.agg [.slice false [],.slice true []],.int .i64 0]):=⟨60,jK⟩
def VF(h:JR P x0 x1 x2 x6):BS tb 17 [.p (.int .i64 0),.ptr 0 0,.ptr 4 0,.ptr 1 0,.ptr 6 0,.ptr 2 0,.ptr 7 0] [(8,.row false 1 []),(7,.var false [.ref 8 0 0 0]),(6,.var false [.ref 5 1 0 1]),(5,.row false 8 [[.int .i64 0,.int .i64 0,.slice true [],.slice true [],.slice true [],.slice true [],.str ⟨#[]⟩,.int .i64 0]]),(4,.var false [.ref 3 0 0 0]),(3,.row false 4 []),(2,.var false [.p (.slice false [[.int .i64 0,.bool false]]),.p (.slice false [[.str ⟨#[97]⟩,.slice false [[.int .i64 0,.bool true]]]])]),(1,.var false [.p (.slice true [[x0,x1,x2,.bool false,.slice true [],.slice true [[.str ⟨#[97]⟩]],x6]])]),(0,.var false [.p (.slice true P)])] 9 (.tuple []) [(8,.row false 1 [[.int .i64 0]]),(7,.var false [.ref 8 1 0 1]),(6,.var false [.ref 5 1 0 1]),(5,.row false 8 [[.int .i64 1,.int .i64 0,.slice false [],.slice false [],.slice false [[.str ⟨#[97]⟩]],.slice false [[.str ⟨#[97]⟩,.int .i64 1,.int .i64 1,.str ⟨#[]⟩]],.str ⟨#[]⟩,.int .i64 1]]),(4,.var false [.p (.slice false [[.str ⟨#[97]⟩,.int .i64 1,.int .i64 1,.str ⟨#[]⟩]])]),(3,.row true 4 []),(2,.var false [.p (.slice false []),.p (.slice true [])]),(1,.var false [.p (.slice true [[x0,x1,x2,.bool false,.slice true [],.slice true [[.str ⟨#[97]⟩]],x6]])]),(0,.var false [.p (.slice true P)])] 9:=by
 have d:=h;unfold JR at d;have e:bV 8 [[.int .i64 1,.int .i64 0,.slice false [],.slice false [],.slice false [[.str ⟨#[97]⟩]],.slice false [[.str ⟨#[97]⟩,.int .i64 1,.int .i64 1,.str ⟨#[]⟩]],.str ⟨#[]⟩,.int .i64 1]]=true:=rfl;have a:bV 1 [[PV.int .i64 0]]=true:=rfl;have b:bV 3 [[PV.bool false,.slice true [],.slice true [[.str ⟨#[97]⟩]]]]=true:=rfl;have f:136<=ak:=jJ ae;have g:1<=ak:=jJ ae;have i:112<=ak:=jJ ae;have j:48<=ak:=jJ ae;have k:56<=ak:=jJ ae;have l:8<=ak:=jJ ae;have m:16<=ak:=jJ ae;have n:40<=ak:=jJ ae;refine cH (af:=Zz) rfl rfl ?_;unfold Zz;dsimp only[aj];repeat'(first|exact d _|exact Wt|(simp(disch:=omega) only[go_sem,seval,reduceCtorEq,e,a,b,f,g,i,j,k,l,m,n,List.set_cons_zero,List.set_cons_succ])|with_reducible exact Ev.mk|apply gb|((first|apply b5|apply bO)<;>intro c o<;>(simp(disch:=omega) only[go_sem,seval,reduceCtorEq,e,a,b,f,g,i,j,k,l,m,n,List.set_cons_zero,List.set_cons_succ,c])<;>clear c))
 all_goals(unfold Fin ic;exact⟨.inl rfl,_,rfl,rfl,rfl,rfl,rfl,Nat.le_refl _,rfl⟩)
def RF(h:JR P x0 x1 x2 x6):PS tb 5 [.slice true P,.slice true [],.slice true [[x0,x1,x2,.bool false,.slice true [],.slice true [[.str ⟨#[97]⟩]],x6]],.slice true []] (.tuple [.slice false [[.str ⟨#[97]⟩,.int .i64 1,.int .i64 1,.str ⟨#[]⟩]],.slice false [[.int .i64 1,.int .i64 0,.slice false [],.slice false [],.slice false [[.str ⟨#[97]⟩]],.slice false [[.str ⟨#[97]⟩,.int .i64 1,.int .i64 1,.str ⟨#[]⟩]],.str ⟨#[]⟩,.int .i64 1]],.slice false [[.int .i64 0]]]):=by
 have m:=VF h;have c:bV 8 [[.int .i64 1,.int .i64 0,.slice false [],.slice false [],.slice false [[.str ⟨#[97]⟩]],.slice false [[.str ⟨#[97]⟩,.int .i64 1,.int .i64 1,.str ⟨#[]⟩]],.str ⟨#[]⟩,.int .i64 1]]=true:=rfl;have a:bV 1 [[PV.int .i64 0]]=true:=rfl;have b:bV 3 [[PV.bool false,.slice true [],.slice true [[.str ⟨#[97]⟩]]]]=true:=rfl;have d:136<=ak:=jJ ae;have e:1<=ak:=jJ ae;have f:112<=ak:=jJ ae;have g:48<=ak:=jJ ae;have i:56<=ak:=jJ ae;have j:8<=ak:=jJ ae;have k:16<=ak:=jJ ae;have l:40<=ak:=jJ ae;refine bM (af:=a5) rfl rfl ?_;unfold a5;dsimp only[List.map,aQ,aj];refine gN (j0 c a b d e f g i j k l) (k1 ?_);refine dY ?_;refine bq MZ.eq_1 ?_;refine gP (j0 c a b d e f g i j k l) (bf OB WA) (k1 ?_);refine rn (dY ?_);refine bq MZ.eq_1 ?_;refine gN (j0 c a b d e f g i j k l) (k1 ?_);refine dY ?_;refine bq Lr.eq_1 ?_;refine gR (q9 c a b d e f g i j k l bC) (bf Qj LU) m (k1 ?_);refine rn (dY ?_);refine bq Lr.eq_1 ?_;exact gN (j0 c a b d e f g i j k l) k0
def TH:PS tb 22 [.slice false [[.bool false,.slice true [],.slice true [[.str ⟨#[97]⟩]]]]] (.slice false [[.slice false []]]):=⟨60,jK⟩
def LA:PS tb 26 [.slice true [],.int .i64 0,.int .i64 1] (.int .i64 0):=⟨60,jK⟩
def VV:PS tb 23 [.int .i64 0,.eN [.slice false [[.bool false]]],.eN [.slice false [[.slice false []]]]] (.bool true):=⟨60,jK⟩
def WK:BS tb 27 [.ref 2 1 0 1,.ref 3 1 0 1,.p (.int .i64 0),.p (.slice true [])] [(6,.row false 1 [[.int .i64 0]]),(5,.row false 1 []),(4,.var false [.ref 3 1 0 1]),(3,.row false 1 [[.bool false]]),(2,.row false 8 [[.int .i64 0,.int .i64 0,.slice true [],.slice true [],.slice true [],.slice true [],.str ⟨#[]⟩,.int .i64 0]]),(1,.var false [.p (.slice false [[.slice false []]])]),(0,.row true 3 [[.bool false,.slice true [],.slice true [[.str ⟨#[97]⟩]]]])] 7 (.p (.slice false [])) [(6,.row false 1 [[.int .i64 0]]),(5,.row false 1 []),(4,.var false [.ref 3 1 0 1]),(3,.row false 1 [[.bool false]]),(2,.row false 8 [[.int .i64 0,.int .i64 0,.slice true [],.slice true [],.slice true [],.slice true [],.str ⟨#[]⟩,.int .i64 0]]),(1,.var false [.p (.slice false [[.slice false []]])]),(0,.row true 3 [[.bool false,.slice true [],.slice true [[.str ⟨#[97]⟩]]]])] 7:=⟨40,jK⟩
def Sc:BS tb 27 [.ref 2 1 0 1,.ref 3 1 0 1,.p (.int .i64 1),.p (.slice true [])] [(6,.row false 1 [[.int .i64 0]]),(5,.row false 1 [[.int .i64 0]]),(4,.var false [.ref 3 1 0 1]),(3,.row false 1 [[.bool true]]),(2,.row false 8 [[.int .i64 1,.int .i64 0,.slice false [],.slice false [],.slice false [[.str ⟨#[97]⟩]],.slice false [[.str ⟨#[97]⟩,.int .i64 1,.int .i64 1,.str ⟨#[]⟩]],.str ⟨#[]⟩,.int .i64 1]]),(1,.var false [.p (.slice false [[.slice false []]])]),(0,.row true 3 [[.bool false,.slice true [],.slice true [[.str ⟨#[97]⟩]]]])] 7 (.p (.slice false [[.str ⟨#[97]⟩,.int .i64 1,.int .i64 1,.str ⟨#[]⟩]])) [(6,.row false 1 [[.int .i64 0]]),(5,.row false 1 [[.int .i64 0]]),(4,.var false [.ref 3 1 0 1]),(3,.row false 1 [[.bool true]]),(2,.row false 8 [[.int .i64 1,.int .i64 0,.slice false [],.slice false [],.slice false [[.str ⟨#[97]⟩]],.slice false [[.str ⟨#[97]⟩,.int .i64 1,.int .i64 1,.str ⟨#[]⟩]],.str ⟨#[]⟩,.int .i64 1]]),(1,.var false [.p (.slice false [[.slice false []]])]),(0,.row true 3 [[.bool false,.slice true [],.slice true [[.str ⟨#[97]⟩]]]])] 7:=⟨40,jK⟩
def XN(h:JR P x0 x1 x2 x6):PS tb 6 [.slice true P,.slice true [],.slice true [[x0,x1,x2,.bool false,.slice true [],.slice true [[.str ⟨#[97]⟩]],x6]],.slice true []] (.tuple [.slice false [[.str ⟨#[97]⟩,.int .i64 1,.int .i64 1,.str ⟨#[]⟩]],.slice false [[.int .i64 1,.int .i64 0,.slice false [],.slice false [],.slice false [[.str ⟨#[97]⟩]],.slice false [[.str ⟨#[97]⟩,.int .i64 1,.int .i64 1,.str ⟨#[]⟩]],.str ⟨#[]⟩,.int .i64 1]],.slice false [[.int .i64 0]]]):=by
 have m:=h;unfold JR at m;have c:bV 8 [[.int .i64 1,.int .i64 0,.slice false [],.slice false [],.slice false [[.str ⟨#[97]⟩]],.slice false [[.str ⟨#[97]⟩,.int .i64 1,.int .i64 1,.str ⟨#[]⟩]],.str ⟨#[]⟩,.int .i64 1]]=true:=rfl;have a:bV 1 [[PV.int .i64 0]]=true:=rfl;have b:bV 3 [[PV.bool false,.slice true [],.slice true [[.str ⟨#[97]⟩]]]]=true:=rfl;have d:136<=ak:=jJ ae;have e:1<=ak:=jJ ae;have f:112<=ak:=jJ ae;have g:48<=ak:=jJ ae;have i:56<=ak:=jJ ae;have j:8<=ak:=jJ ae;have k:16<=ak:=jJ ae;have l:40<=ak:=jJ ae;refine bM (af:=a6) rfl rfl ?_;unfold a6;dsimp only[List.map,aQ,aj];refine gN (j0 c a b d e f g i j k l) (k1 ?_);refine dY ?_;refine bq LP.eq_1 ?_;refine gN (j0 c a b d e f g i j k l) (k1 ?_);refine rn (dY ?_);refine bq LP.eq_1 ?_;refine gP (j0 c a b d e f g i j k l) TH (k1 ?_);refine WL rfl ⟨rfl,?_⟩;refine gN (j0 c a b d e f g i j k l) (k1 ?_);refine dY ?_;refine bq LD.eq_1 ?_;refine gN (j0 c a b d e f g i j k l) (k1 ?_);refine dY ?_;refine bq LY.eq_1 ?_;refine gP (j0 c a b d e f g i j k l) VV (k1 ?_);refine rn (dY ?_);refine bq LY.eq_1 ?_;refine gR (j0 c a b d e f g i j k l) (bf LA (λ{n}=>m n)) WK (k1 ?_);refine rn (dY ?_);refine bq LD.eq_1 ?_;exact gR (q9 c a b d e f g i j k l bC) trivial Sc k0
end
abbrev kW:ByteArray:=⟨#[97]⟩
abbrev p0:Pc:=⟨⟨#[112]⟩,true,[],true,[.mk 3 E 0 (.mk 2 0 kW true []) (.mk 1 1 E true []) true [] true []]⟩
abbrev t0:Tx:=⟨1,⟨#[112]⟩,true,[],⟨false,true,[],true,[kW]⟩,1⟩
def aaj:(dG tb.A tb.X 40).pure 81 [.agg (cq p0)]=some (.int .i64 0):=jK
def Z3:(dG tb.A tb.X 40).pure 80 [.agg (cq p0),.slice true (bF [])]=some (.int .i64 0):=jK
def X5:oG p0=0:=by
 have a:PS tb 81 [.agg (cq p0)] (.int .i64 0):=⟨40,aaj⟩;have b:PS tb 81 [.agg (cq p0)] (.int .i64 (oG p0)):=j9 (p:=λe=>PS tb 81 [.agg (cq p0)] (.int .i64 e)) ⟨0,a⟩;have:=sr b a;simpa using this
def Ru:kQ p0 true []=0:=by
 have a:PS tb 80 [.agg (cq p0),.slice true (bF [])] (.int .i64 0):=⟨40,Z3⟩;have b:PS tb 80 [.agg (cq p0),.slice true (bF [])] (.int .i64 (kQ p0 true [])):=j9 (p:=λe=>PS tb 80 [.agg (cq p0),.slice true (bF [])] (.int .i64 e)) ⟨0,a⟩;have:=sr b a;simpa using this
def aap:kl t0.eT=true:=by decide
def Xw:kj [p0] t0 []=⟨1,0,false,[],false,[],false,[kW],false,[⟨kW,⟨1,1,E⟩⟩],E,1⟩:=by
 have a:lA [p0] t0=some p0:=by
  unfold lA;have:[p0].find? (sV t0)=some p0:=rfl;rw[this];simp only;rw[aq Ru]
 unfold kj;rw[a];simp only;unfold qR;rw[aq ⟨X5,Ru,rfl,aap⟩];rfl
def tx0:sX t0:=⟨aB,aB,Nat.zero_le _,by show 1<=68719476736;omega⟩
def nD(n:Int)(h:-9223372036854775808<=n/\n<=9223372036854775807):df n:=h
def aae:jM p0:=by
 refine⟨by decide,aB,aB,?_,by simp[p0,dF,aX.sz]⟩;simp only[p0,cD,aX.ok,aF.ok,fQ,aF.sz,cI,and_true];refine⟨nD _ (by decide),by decide,nD _ (by decide),⟨⟨nD _ (by decide),nD _ (by decide),by decide⟩,by decide⟩,⟨nD _ (by decide),nD _ (by decide),by decide⟩,by decide⟩
def Xr:Ac [p0] [t0]:=⟨aB,λt a=>by
 rw[List.mem_singleton]at a;subst a;exact Rh aB (λp b=>by rw[List.mem_singleton]at b;subst b;exact aae) tx0⟩
def aaq:ij [p0] [t0] [] 1=[⟨kW,⟨1,1,E⟩⟩]:=by
 show jO [] (kj [p0] t0 [])=_
 rw[Xw];unfold jO;rw[aq ⟨rfl,by decide⟩,dm];rfl
def HO:JR (fY [p0]) (.int .i64 1) (.str ⟨#[112]⟩) (.slice true []) (.int .i64 1):=λc=>by
 have h:=N9 (Xr.ok t0 aB) (s:=[]) ⟨aB,aB⟩ true c;rw[Xw]at h;have a:jO [] ⟨1,0,false,[],false,[],false,[kW],false,[⟨kW,⟨1,1,E⟩⟩],E,1⟩=[⟨kW,⟨1,1,E⟩⟩]:=by
  unfold jO;rw[aq ⟨rfl,by decide⟩,dm];rfl
 rw[a]at h;exact h
def Ta(b d:Bool):PS tb 8 [.slice b [[.str ⟨#[97]⟩,.int .i64 1,.int .i64 1,.str ⟨#[]⟩]],.slice d [[.str ⟨#[97]⟩,.int .i64 1,.int .i64 1,.str ⟨#[]⟩]]] (.bool true):=⟨40,jK⟩
def Rz:PS tb 32 [.agg [.bool false,.slice true [],.slice true [[.str ⟨#[97]⟩]]],.agg [.bool false,.slice true [],.slice true [[.str ⟨#[97]⟩]]]] (.bool true):=⟨40,jK⟩
def IS:PS tb 10 [] (.bool true):=by
 have b:=RF HO;have c:=XN HO;have d:=Wp HO;have a:=D3 [p0] [] [t0] true true true Xr ⟨aB,aB⟩;have e:ij [p0] [t0] [] [t0].length=[⟨kW,⟨1,1,E⟩⟩]:=aaq;rw[e]at a;generalize iP ((List.range [t0].length).map (jo [p0] [t0] []))=h at a;simp only[fY,cq,bm,uS,fK,qJ,rH,List.map,bD,aX.cs,aF.op,aF.n,aF.s,aF.f,aF.xs,aJ,e9,bF,aA,E,kW]at b c d a;refine bM (af:=YG) rfl rfl ?_;unfold YG;dsimp only[List.map,aQ,aj];exact gP bC (pS b c d a Rz (λ{f g}=>Ta f g)) k0;all_goals rfl
end
section
open Go Go.Dv
mutual
def iF:aF->aF
 | .mk a n s _ b=>.mk a n s false (kK b)
def kK:List aF->List aF
 |[]=>[]
 |e::r=>iF e::kK r
end
mutual
def qP:aX->aX
 | .mk e name max a b _ c _ d=>.mk e name max (iF a) (iF b) false (jx c) false (jx d)
def jx:List aX->List aX
 |[]=>[]
 |s::r=>qP s::jx r
end
def CW(p:Pc):Pc:=⟨p.name,false,p.ps,false,jx p.body⟩
def r9:∀l:List aF,kK l=l.map iF
 |[]=>by simp[kK]
 |e::r=>by simp[kK,r9 r]
def rS:∀l:List aX,jx l=l.map qP
 |[]=>by simp[jx]
 |e::r=>by simp[jx,rS r]
def KH(e:aF):(iF e).op=e.op/\(iF e).n=e.n/\(iF e).s=e.s/\(iF e).f=false/\(iF e).xs=kK e.xs:=by cases e;simp[iF,aF.op,aF.n,aF.s,aF.f,aF.xs]
def nG:∀l:List aF,aJ l=l.map aF.cs
 |[]=>by simp[aJ]
 |e::r=>by simp[aJ,nG r]
def pa:∀l:List aX,bD l=l.map aX.cs
 |[]=>by simp[bD]
 |e::r=>by simp[bD,pa r]
def Ee(l:List aF):bV 4 (aJ l)=true:=by simp[bV,nG,aF.pM]
def Eo(l:List aX):bV 13 (bD l)=true:=by
 rw[pa];simp only[bV,List.all_map,List.all_eq_true];intro s _;cases s;simp[aX.cs]
def vP(l:List aF)(i:Nat):List aF:=(l.take i).map iF++l.drop i
def vI(l:List aX)(i:Nat):List aX:=(l.take i).map qP++l.drop i
def I0(l:List aF)(i:Nat):(vP l i).length=l.length:=by simp[vP];omega
def Jg(l:List aX)(i:Nat):(vI l i).length=l.length:=by simp[vI];omega
def NA{a:Type}(f:a->a)(l:List a)(i:Nat)(h:i<l.length):((l.take i).map f++l.drop i)[i]?=some l[i]:=by
 rw[List.getElem?_append_right (by simp;omega)];simp[h,MG (Nat.le_of_lt h)]
def NB{a:Type}(f:a->a)(l:List a)(i:Nat)(h:i<l.length):((l.take i).map f++l.drop i).set i (f l[i])=(l.take (i+1)).map f++l.drop (i+1):=by
 rw[List.set_append_right _ _ (by simp;omega)];have e:i-((l.take i).map f).length=0:=by simp;omega
 rw[e,List.drop_eq_getElem_cons h,List.set_cons_zero,List.take_succ_eq_append_getElem h];simp only[List.map_append,List.map_cons,List.map_nil,List.append_assoc,List.cons_append,List.nil_append]
def Rk(l:List aF)(i:Nat)(h:i<l.length):(aJ (vP l i))[i]?=some [.int .i64 l[i].op,.int .i64 l[i].n,.str l[i].s,.slice l[i].f (aJ l[i].xs)]:=by
 rw[nG,List.getElem?_map,vP,NA iF l i h];simp only[Option.map_some,aF.pM,nG]
def UC(l:List aF)(i:Nat)(h:i<l.length):(aJ (vP l i)).set i [.int .i64 (iF l[i]).op,.int .i64 (iF l[i]).n,.str (iF l[i]).s,.slice (iF l[i]).f (aJ (iF l[i]).xs)]=aJ (vP l (i+1)):=by
 rw[<-aF.pM,nG,nG,<-List.map_set,vP,NB iF l i h,vP]
def Tl(l:List aX)(i:Nat)(h:i<l.length):(bD (vI l i))[i]?=some l[i].cs:=by
 rw[pa,List.getElem?_map,vI,NA qP l i h];rfl
def Tf(l:List aX)(i:Nat)(h:i<l.length):(bD (vI l i)).set i (qP l[i]).cs=bD (vI l (i+1)):=by
 rw[pa,pa,<-List.map_set,vI,NB qP l i h,vI]
def Re(l:List aF):vP l l.length=kK l:=by simp[vP,r9]
def Sy(l:List aX):vI l l.length=jx l:=by simp[vI,rS]
def Mr(l:List aF)(b:Bool)(h:l.length<=1048576)(H:Heap)(a:Nat):BS tb 130 [.p (.slice b (aJ l))] H a (.ref a l.length 0 l.length) ((a,.row false 4 (aJ l))::H) (a+1):=by
 refine⟨0,?_⟩;have c:tb.A 130=none:=rfl;have d:l.length*56<=ak:=by simp only[ak];omega
 have e:l.length<=ak:=by simp only[ak];omega
 have f:tb.X=outside:=rfl;simp only[dG,c,f];simp[outside,aI.or,ln,lI,Ee,aD,d,e]
def KT(l:List aX)(b:Bool)(h:l.length<=1048576)(H:Heap)(a:Nat):BS tb 105 [.p (.slice b (bD l))] H a (.ref a l.length 0 l.length) ((a,.row false 13 (bD l))::H) (a+1):=by
 refine⟨0,?_⟩;have c:tb.A 105=none:=rfl;have d:l.length*192<=ak:=by simp only[ak];omega
 have e:l.length<=ak:=by simp only[ak];omega
 have f:tb.X=outside:=rfl;simp only[dG,c,f];simp[outside,aI.or,ln,lI,Eo,aU,d,e]
def Ix(l:List Pm)(b:Bool)(h:l.length<=1048576):PS tb 67 [.slice b (e9 l)] (.slice false (e9 l)):=by
 refine⟨0,?_⟩;have a:tb.A 67=none:=rfl;have c:l.length*24<=ak:=by simp only[ak];omega
 have d:l.length<=ak:=by simp only[ak];omega
 have e:tb.X=outside:=rfl;simp only[dG,a,e];simp[outside,aI.or,ln,lI,oU,b6,c,d]
def Cm:∀(n:Nat) (e:aF),e.sz<=n->n<=1048576->PS tb 106 [.agg [.int .i64 e.op,.int .i64 e.n,.str e.s,.slice e.f (aJ e.xs)]] (.agg [.int .i64 (iF e).op,.int .i64 (iF e).n,.str (iF e).s,.slice (iF e).f (aJ (iF e).xs)])
 |0,e,b,_=>by cases e;simp[aF.sz]at b
 |n+1,e,b,B=>by
  have a:e.xs.length<=1048576:=by have:=bI e.xs;rw[aF.fj]at b;omega
  have d:cI e.xs<=n:=by rw[aF.fj]at b;omega
  have k:=λH l=>Mr e.xs e.f a H l
  obtain⟨m,o,p,q,r⟩:=KH e;rw[m,o,p,q,r];refine bM (af:=Ua) rfl rfl ?_;unfold Ua;dsimp only[List.map,aQ,aj];have s:vP e.xs 0=e.xs:=by simp[vP]
  refine gR @aD trivial (λ{t u}=>k t u) (k1 ?_);refine bU (λj h=>∃(i:Nat),i+j=e.xs.length/\h=⟨[(1,.ptr 0 0),(2,.ptr 1 0),(10,.ref 2 e.xs.length 0 e.xs.length),(11,.p (.int .i64 e.xs.length)),(12,.p (.int .i64 i))],[(2,.row false 4 (aJ (vP e.xs i))),(1,.var false [.p (.int .i64 0),.p (.int .i64 0),.p (.str E),.p (.slice true [])]),(0,.var false [.p (.int .i64 e.op),.p (.int .i64 e.n),.p (.str e.s),.ref 2 e.xs.length 0 e.xs.length])],3,[0]⟩) ?_ e.xs.length _ ⟨0,ae,by rw[s];rfl⟩
  rintro j h ⟨i,C,rfl⟩;refine bq JJ.eq_1 ?_;rcases cK i e.xs.length with c|c
  .have f:(i:Int)<e.xs.length:=ae;have v:(0:Int)<=i:=ae;have w:=Rk e.xs i c;have x:=UC e.xs i c;have g:(aJ (vP e.xs i)).length=e.xs.length:=by rw[aD,I0]
   have y:=Cm n e.xs[i] (dL (ja (List.getElem_mem c)) d) ae;refine gP (pS f v w x g c) y (k1 ?_);exact LI.next (m':=j-1) ae ⟨i+1,ae,rfl⟩
  .have f:¬(i:Int)<e.xs.length:=ae;obtain rfl:i=e.xs.length:=ae;have g:(aJ (vP e.xs e.xs.length)).length=e.xs.length:=by rw[aD,I0]
   have z:(aJ (kK e.xs)).length=e.xs.length:=by rw[aD,r9,List.length_map]
   have A:(aJ (kK e.xs)).take e.xs.length=aJ (kK e.xs):=List.take_of_length_le ae;refine gN (c9 f g @Re) (k1 ?_);simp[z,A]
def AB:∀(n:Nat) (l:List aX) (b:Bool),dF l<n->n<=1048577->cD l->PS tb 68 [.slice b (bD l)] (.slice false (bD (jx l)))
 |0,l,b,y,_,_=>ae
 |n+1,l,b,y,P,z=>by
  have h:l.length<=1048576:=by have:=da l;omega
  have A:=λH B=>KT l b h H B
  refine bM (af:=Yo) rfl rfl ?_;unfold Yo;dsimp only[List.map,aQ,aj];have C:vI l 0=l:=by simp[vI]
  refine gR @aU trivial (λ{D E}=>A D E) (k1 ?_);refine bU (λj w=>∃(i:Nat),i+j=l.length/\w=⟨[(3,.ref 0 l.length 0 l.length),(8,.ref 0 l.length 0 l.length),(9,.p (.int .i64 l.length)),(10,.p (.int .i64 i))],[(0,.row false 13 (bD (vI l i)))],1,[0]⟩) ?_ l.length _ ⟨0,ae,by rw[C];rfl⟩
  rintro j w ⟨i,Q,rfl⟩;refine bq N1.eq_1 ?_;rcases cK i l.length with c|c
  .have o:(i:Int)<l.length:=ae;have F:(0:Int)<=i:=ae;have p:=Tl l i c;have q:=Tf l i c;have r:(bD (vI l i)).length=l.length:=by rw[aU,Jg]
   have x:=List.getElem_mem c;have k:=gO x;have d:=fk z l[i] x;generalize l[i]=s at p q k d;obtain⟨R,name,max,a,e,f,m,g,t⟩:=s;simp only[aX.sz]at k;simp only[aX.ok]at d;obtain⟨_,_,_,⟨_,u⟩,⟨_,v⟩,G,I⟩:=d;have J:=Cm 1048576 a (by simpa[iq]using u) (Nat.le_refl _);have K:=Cm 1048576 e (by simpa[iq]using v) (Nat.le_refl _);have L:=AB n m f ae ae G;have M:=AB n t g ae ae I;simp only[qP,aX.cs]at p q;refine gP (pS o F p q r c) (eY J K L M) (k1 ?_);exact LI.next (m':=j-1) ae ⟨i+1,ae,rfl⟩
  .have o:¬(i:Int)<l.length:=ae;obtain rfl:i=l.length:=ae;have r:(bD (vI l l.length)).length=l.length:=by rw[aU,Jg]
   have N:(bD (jx l)).length=l.length:=by rw[aU,rS,List.length_map]
   have O:(bD (jx l)).take l.length=bD (jx l):=List.take_of_length_le ae;refine gN (c9 o r @Sy) (k1 ?_);simp[N,O]
def TS(l:List aX)(b:Bool)(c:dF l<=1048576)(a:cD l):PS tb 68 [.slice b (bD l)] (.slice false (bD (jx l))):=AB 1048577 l b ae (Nat.le_refl _) a
def TX(p:Pc)(a:p.ps.length<=1048576)(b:dF p.body<=1048576)(c:cD p.body):PS tb 39 [.agg (cq p)] (.agg (cq (CW p))):=by
 have d:=Ix p.ps p.fp a;have e:=TS p.body p.fb b c;refine bM (af:=Yb) rfl rfl ?_;unfold Yb;dsimp only[List.map,aQ,aj,cq];refine gP trivial (bf d e) (k1 ?_);all_goals rfl
mutual
theorem IH(e:aF):(iF e).sz=e.sz:=by
 cases e with
 |mk b n s f a=>simp only[iF,aF.sz,EV a]
theorem EV(l:List aF):cI (kK l)=cI l:=by
 cases l with
 |nil=>simp[kK]
 |cons e r=>simp only[kK,cI,IH e,EV r]
end
mutual
theorem H8(e:aF):(iF e).ok↔e.ok:=by
 cases e with
 |mk b n s f a=>simp only[iF,aF.ok,Gb a]
theorem Gb(l:List aF):fQ (kK l)↔fQ l:=by
 cases l with
 |nil=>simp[kK]
 |cons e r=>simp only[kK,fQ,H8 e,Gb r]
end
mutual
theorem Tp(s:aX):(qP s).sz=s.sz:=by
 cases s with
 |mk e name max a b f c g d=>simp only[qP,aX.sz,zL c,zL d]
theorem zL(l:List aX):dF (jx l)=dF l:=by
 cases l with
 |nil=>simp[jx]
 |cons e r=>simp only[jx,dF,Tp e,zL r]
end
mutual
theorem T0(s:aX):(qP s).ok↔s.ok:=by
 cases s with
 |mk e name max a b f c g d=>simp only[qP,aX.ok,H8,IH,zB c,zB d]
theorem zB(l:List aX):cD (jx l)↔cD l:=by
 cases l with
 |nil=>simp[jx]
 |cons e r=>simp only[jx,cD,T0 e,zB r]
end
end
end Go.Dv.Tryz
