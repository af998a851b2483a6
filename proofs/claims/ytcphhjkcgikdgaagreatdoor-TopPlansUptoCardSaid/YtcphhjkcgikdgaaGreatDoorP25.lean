/- Lemmas for the law of this claim. -/
import Derived.Test.YtcphhjkcgikdgaaGreatDoorP24
set_option linter.all false
set_option maxRecDepth 100000
set_option maxHeartbeats 8000000
namespace Go.Dv.Tryz
section
open Go Go.Dv
abbrev VM:=ByteArray->Option bX
def l8(f:VM)(k:ByteArray)(v:bX):VM:=λj=>if j=k then some v else f j
structure MS where
 vn:Nat
 vars:VM
 on:Nat
 own:VM
 out:List bX
 reads:List ByteArray
 cm:List ByteArray
 steps:Int
inductive Rs(α:Type) where
 |ok (a:α) (m:MS)
 |no (st code:Int) (Of:ByteArray) (m:MS)
def Rs.bind{b d:Type}:Rs b->(b->MS->Rs d)->Rs d
 | .ok a m,f=>f a m
 | .no e c k m,_=>.no e c k m
def bB{a:Type}(c:Int)(m:MS):Rs a:=.no 2 c E m
structure Cz where
 g:ByteArray->bX
 all:Bool
 rd:List ByteArray
 wr:List ByteArray
def fB(c:Cz)(a:ByteArray)(m:MS):Rs bX:=
 if lG a then match m.own a with
  |some v=>.ok v m
  |none=>if !c.all&&!hasB c.rd a then .no 3 0 a m else .ok (c.g a) {m with reads:=ins a m.reads}
 else bB 1004 m
def fe(c:Cz)(a:ByteArray)(v:bX)(m:MS):Rs Unit:=
 if lG a then if !c.all&&!hasB c.wr a then .no 3 0 a m
  else .ok () {m with cm:=ins a m.cm,own:=l8 m.own a v,on:=if(m.own a).isSome then m.on else m.on+1}
 else bB 1004 m
def nM(v:bX)(m:MS):Rs Unit:=if m.out.length=16 then bB 1007 m else .ok () {m with out:=m.out++[v]}
def gW(m:MS):Rs Unit:=if 16384<m.steps+1 then bB 1008 {m with steps:=m.steps+1}else .ok () {m with steps:=m.steps+1}
def gk(k:ByteArray)(v:bX)(m:MS):MS:={m with vars:=l8 m.vars k v,vn:=if(m.vars k).isSome then m.vn else m.vn+1}
abbrev An:=Except Int bX
def dt(n:Int):bX:=⟨1,n,E⟩
def gy(b:Bool):bX:=⟨3,if b then 1 else 0,E⟩
def lC(s:ByteArray):An:=if 64<s.size then .error 1006 else .ok ⟨2,0,s⟩
def gi(x:Int×Int):An:=if x.2=0 then .ok (dt x.1)else if x.2=4 then .error 1002 else .error 1001
abbrev ph(n:Int):Int:=IntKind.i64.wrap n
def qY(a:Int):Int×Int:=if a=-9223372036854775808 then(0,3)else(ph (0-a),0)
def rB(a b:Int):Int×Int:=if(decide (0<b)&&decide (ph (a+b)<a))||(decide (b<0)&&decide (a<ph (a+b)))then(0,3)else(ph (a+b),0)
def mh(a b:Int):Int×Int:=if(decide (0<b)&&decide (a<ph (a-b)))||(decide (b<0)&&decide (ph (a-b)<a))then(0,3)else(ph (a-b),0)
def qu(a b:Int):Int×Int:=
 if a=0\/b=0 then(0,0)else if a=-1 then qY b else if b=-1 then qY a
 else if ph ((ph (a*b)).tdiv b)≠a then(0,3)else(ph (a*b),0)
def VY(a b:Int):Bool:=decide (a<0)!=decide (b<0)
def sK(a b:Int):Int×Int:=
 if b=0 then(0,4)else if b=-1 then qY a
 else if a.tmod b≠0/\VY a b=true then(ph (ph (a.tdiv b)-1),0)else(ph (a.tdiv b),0)
def sO(a b:Int):Int×Int:=
 if b=0 then(0,4)else if b=-1 then(0,0)
 else if a.tmod b≠0/\VY (a.tmod b) b=true then(ph (a.tmod b+b),0)else(a.tmod b,0)
def fC(c a b:Int):An:=gi (if c=4 then rB a b else if c=5 then mh a b else if c=6 then qu a b else if c=7 then sK a b else sO a b)
def sJ(a b:Int):Int:=if a<b then-1 else if b<a then 1 else 0
def B8(a b:bX):Int:=if a.k≠b.k then sJ a.k b.k else if a.n=b.n then pG a.s b.s else sJ a.n b.n
def mi(a x:Int):Bool:=if a=10 then decide (x=0)else if a=11 then !decide (x=0)else if a=12 then decide (x<0)else if a=13 then decide (x<=0)else if a=14 then decide (0<x)else decide (0<=x)
def qC(c:Int)(a b:bX):An:=if a.k=b.k/\(a.k=1\/a.k=2\/(a.k=3/\c<=11))then .ok (gy (mi c (B8 a b)))else .error 1009
def dv(c:Int)(a b:bX):An:=
 if c=4\/c=5\/c=6\/c=7\/c=8 then(if a.k=1/\b.k=1 then fC c a.n b.n else .error 1009)
 else if c=16 then(if a.k=3/\b.k=3 then .ok (gy (decide (a.n=1)&&decide (b.n=1)))else .error 1009)
 else if c=17 then(if a.k=3/\b.k=3 then .ok (gy (decide (a.n=1)||decide (b.n=1)))else .error 1009)
 else if c=19 then(if a.k=2/\b.k=2 then lC (a.s++b.s)else .error 1009)
 else qC c a b
def jd(x:An)(m:MS):Rs bX:=match x with
 | .ok v=>.ok v m
 | .error c=>bB c m
def mj(a:Int)(v:bX):An:=
 if a=24 then .ok (gy (!decide (v.k=0)))
 else if a=22/\v.k=0 then .ok (dt 0)
 else if a=23/\v.k=0 then lC E
 else if(a=22/\¬v.k=1)\/(a=23/\¬v.k=2)then .error 1003
 else .ok v
def gj(c:Cz)(b:Int)(a:bX)(m:MS):Rs bX:=
 if b=9 then(if a.k=1 then jd (gi (qY a.n)) m else bB 1009 m)
 else if b=18 then(if a.k=3 then .ok (gy (decide (a.n=0))) m else bB 1009 m)
 else if b=20 then(if a.k=1 then jd (lC (qF a.n)) m else bB 1009 m)
 else if b=21 then(if a.k=2 then .ok (dt a.s.size) m else bB 1009 m)
 else if a.k=2 then(fB c a.s m).bind λv m=>jd (mj b v) m
 else bB 1009 m
def mD(c:Cz)(d:Int)(l:List bX)(m:MS):Rs bX:=match l with
 |[a]=>gj c d a m
 |[a,b]=>jd (dv d a b) m
 |_=>bB 1009 m
mutual
def cG(c:Cz):aF->MS->Rs bX
 | .mk a n s _ b,m=>
  if a=1 then .ok (dt n) m
  else if a=2 then .ok ⟨2,0,s⟩ m
  else if a=3 then match m.vars s with
   |some v=>.ok v m
   |none=>bB 1009 m
  else(dX c b m).bind (mD c a)
def dX(c:Cz):List aF->MS->Rs (List bX)
 |[],m=>.ok [] m
 |e::r,m=>(cG c e m).bind λv m=>(dX c r m).bind λl m=>.ok (v::l) m
end
def j7(f:Int->MS->Rs Unit):Nat->Int->MS->Rs Unit
 |0,_,m=>.ok () m
 |n+1,i,m=>(f i m).bind λ_ m=>j7 f n (i+1) m
abbrev u64(n:Int):Int:=IntKind.u64.wrap n
def lE(a b max:Int):Bool:=decide (a<b)&&decide (u64 max<u64 (u64 b-u64 a))
mutual
def cj(c:Cz):aX->MS->Rs Unit
 | .mk d name max a b _ e _ f,m=>
  if d=1\/d=2 then(cG c a m).bind λv m=>.ok () (gk name v m)
  else if d=3 then(cG c a m).bind λk m=>(cG c b m).bind λv m=>if k.k=2/\(v.k=1\/v.k=2)then fe c k.s v m else bB 1009 m
  else if d=4 then(cG c a m).bind λk m=>if k.k=2 then fe c k.s V0 m else bB 1009 m
  else if d=5 then(cG c a m).bind λx m=>if x.k=3 then(if x.n=1 then bN c e m else bN c f m)else bB 1009 m
  else if d=6 then(cG c a m).bind λx m=>(cG c b m).bind λy m=>if x.k=1/\y.k=1 then
   (if lE x.n y.n max then bB 1005 m else j7 (λi m=>(gW m).bind λ_ m=>bN c e (gk name (dt i) m)) (y.n-x.n).toNat x.n m)else bB 1009 m
  else if d=7 then(cG c a m).bind λv m=>if v.k=1\/v.k=2 then nM v m else bB 1009 m
  else if d=8 then bB max m
  else .ok () m
def bN(c:Cz):List aX->MS->Rs Unit
 |[],m=>.ok () m
 |s::r,m=>(gW m).bind λ_ m=>(cj c s m).bind λ_ m=>bN c r m
end
def dS:Rs Unit->Ef
 | .ok _ m=>⟨1,0,false,m.out,false,m.reads,false,m.cm,false,m.cm.map λk=>⟨k,(m.own k).getD V0⟩,E,m.steps⟩
 | .no c a b m=>⟨c,a,true,[],false,m.reads,false,m.cm,false,[],b,m.steps⟩
end
section
open Go Go.Dv
def Px(n k:Nat):(n==n+k)=(k==0):=by rw[GI,cw,cw];omega
def Pq(n k:Nat):(n+k==n)=(k==0):=by rw[GI,cw,cw];omega
def P6(n k j:Nat):(n+k==n+j)=(k==j):=by rw[GI,cw,cw];omega
def SN(n k:Nat):(n+k<n)=False:=aB
def Sa(n k:Nat):(n<n+k)=(0<k):=aB
def Q7(n k j:Nat):(n+k<n+j)=(k<j):=aB
def Ro(n k:Nat):(n<=n+k)=True:=aB
def Kq(a b:Int):(a==b)=decide (a=b):=by rw[GI,cw,decide_eq_true_iff]
def RE(a b:Int):(a !=b)=!decide (a=b):=by rw[bne,Kq]
def U8(n k:Nat):(n=n+k)=(k=0):=by rw[Gn];omega
def SW(n k:Nat):(n+k=n)=(k=0):=by rw[Gn];omega
def UJ(n k j:Nat):(n+k=n+j)=(k=j):=by rw[Gn];omega
attribute [go_sem] Nat.add_assoc U8 SW UJ Kq RE Px Pq P6 SN Sa Q7 Ro TC SY Left
section
variable{T:dk}{s s':St}{K:Ex->St->Prop}{o:ai}{f:FuncId}{l:List DV}
def IA{k:List Nat}{r:List (ai×List Nat)}{v:PV}{H:Heap}(a:Ev (oC s o) (some (f,l)))(b:CS T f l s.heap s.next (.inr (v,H)))(h:K (.panic v) {s with env:=[],heap:=H}):Mg T o k r s K:=
 Rm a b (λ_ e=>by cases e) λ_ _ e=>by cases e;exact h
def dh{pre:List ai}{a:ai}{post:List ai}{b:List Nat}{c:St}{v:DV}{H:Heap}{n:Nat}(d:Ev (oC s a) (some (f,l)))(g:CS T f l s.heap s.next (.inl (v,H,n)))
  (h:ct T pre {c with heap:=H,next:=n} (KR T s (jy s a.dst (v,H,n)) post b K)):HM T pre a post b c s K:=
 K4 d g (λ_ e=>by cases e;exact h) λ_ _ e=>by cases e
def Oi{pre:List ai}{a:ai}{post:List ai}{b:List Nat}{c:St}{v:PV}{H:Heap}(d:Ev (oC s a) (some (f,l)))(g:CS T f l s.heap s.next (.inr (v,H)))
  (h:K (.panic v) {c with env:=[],heap:=H}):HM T pre a post b c s K:=
 K4 d g (λ_ e=>by cases e) λ_ _ e=>by cases e;exact h
end
structure bu(H:Heap)(nx:Nat):Prop where
 ba:∀c,nx<=c->az c H=H
 al:∀c,nx<=c->cL c H=true
 no:∀c,nx<=c->ah H c=none
def fu{c a:Nat}(b:c<=a):∀(n:Nat) (d:DV),below c n d=true->below a n d=true
 |0,_,h=>by simp[below]at h
 |n+1,d,h=>by
  cases d<;>simp only[below,List.all_eq_true,cp]at h⊢<;>first|omega|exact λx e=>fu b n x (h x e)
def ca.fu{c e:Nat}(d:c<=e){b:ca}(h:b.below c=true):b.below e=true:=by
 cases b with
 |var f p=>simp only[ca.below,List.all_eq_true]at h⊢;exact λx a=>Tryz.fu d _ _ (h x a)
 |row f j k=>rfl
 |bh f j k=>simp only[ca.below,List.all_eq_true]at h⊢;exact λx a y m=>Tryz.fu d _ _ (h x a y m)
 |map f i=>cases i with
  |strs n g=>rfl
  |ints i=>simp only[ca.below,List.all_eq_true]at h⊢;exact λx a=>Tryz.fu d _ _ (h x a)
def bu.cons{H:Heap}{a:Nat}{b:ca}(h:bu H a)(e:b.below (a+1)=true):bu ((a,b)::H) (a+1):=
 ⟨λc d=>by rw[az,aq ae,h.ba c ae],λc d=>by simp only[cL,aO];exact⟨ca.fu d e,h.al c ae⟩,λc d=>by rw[aP,an ae];exact h.no c ae⟩
def bu.c1{H:Heap}{a:Nat}{b:ca}(h:bu H a)(c:b.below (a+1)=true:=by rfl):bu ((a,b)::H) (a+1):=h.cons c
def bu.c2{H:Heap}{a:Nat}{b c:ca}(h:bu H a)(d:b.below (a+1)=true:=by rfl)(e:c.below (a+1+1)=true:=by rfl):bu ((a+1,c)::(a,b)::H) (a+2):=(h.cons d).cons e
def bu.c3{H:Heap}{a:Nat}{b c d:ca}(h:bu H a)(e:b.below (a+1)=true:=by rfl)(g:c.below (a+1+1)=true:=by rfl)(i:d.below (a+2+1)=true:=by rfl):bu ((a+2,d)::(a+1,c)::(a,b)::H) (a+3):=((h.cons e).cons g).cons i
def bu.d1{P:Heap->Nat->Prop}{H:Heap}{a:Nat}(h:bu H a)(f:∀{c:Heap} {d:Nat},bu c d->P c d){b:ca}(e:b.below (a+1)=true:=by rfl):P ((a,b)::H) (a+1):=f (h.c1 e)
def bu.d2{P:Heap->Nat->Prop}{H:Heap}{a:Nat}(h:bu H a)(f:∀{d:Heap} {e:Nat},bu d e->P d e){b c:ca}(g:b.below (a+1)=true:=by rfl)(i:c.below (a+1+1)=true:=by rfl):P ((a+1,c)::(a,b)::H) (a+2):=f (h.c2 g i)
def bu.d3{P:Heap->Nat->Prop}{H:Heap}{a:Nat}(h:bu H a)(f:∀{e:Heap} {g:Nat},bu e g->P e g){b c d:ca}(i:b.below (a+1)=true:=by rfl)(j:c.below (a+1+1)=true:=by rfl)(k:d.below (a+2+1)=true:=by rfl):P ((a+2,d)::(a+1,c)::(a,b)::H) (a+3):=f (h.c3 i j k)
def qz(c a:Int)(b:ByteArray):PV:=.iface 153 (.agg [.int .i64 c,.int .i64 a,.slice true [],.str b])
def gu(c:Int){H:Heap}{a:Nat}(h:bu H a):CS tb 136 [.p (.int .i64 c)] H a (.inr (qz 2 c E,H)):=by
 refine fZ (af:=Q6) rfl rfl ?_;unfold Q6;dsimp only[aj];refine gN (bf h.ba h.al) (k1 ?_);simp[qz,E]
def AJ(k:ByteArray){H:Heap}{a:Nat}(h:bu H a):CS tb 176 [.p (.str k)] H a (.inr (qz 3 0 k,H)):=by
 refine fZ (af:=Q1) rfl rfl ?_;unfold Q1;dsimp only[aj];refine gN (bf h.ba h.al) (k1 ?_);simp[qz]
end
section
open Go Go.Dv
abbrev Q:=(DV×Heap×Nat)⊕(PV×Heap)
abbrev fX(v:bX):DV:=.agg [.p (.int .i64 v.k),.p (.int .i64 v.n),.p (.str v.s)]
def gl(x:An)(H:Heap)(nx:Nat):Q:=match x with
 | .ok v=>.inl (fX v,H,nx)
 | .error c=>.inr (qz 2 c E,H)
section
variable{H:Heap}{nx:Nat}
def aK(h:bu H nx):CS tb 138 [.p (.bool true)] H nx (.inl (.tuple [],H,nx)):=by
 refine fZ (af:=a138) rfl rfl ?_;unfold a138;dsimp only[aj];exact gN (c9 h.ba h.al h.no) k0
def b8(h:bu H nx):CS tb 138 [.p (.bool false)] H nx (.inr (qz 2 1009 E,H)):=by
 refine fZ (af:=a138) rfl rfl ?_;unfold a138;dsimp only[aj];exact gD (c9 h.ba h.al h.no) trivial trivial (gu 1009 h) k0
def qf(n:Int):PS tb 173 [.int .i64 n] (.agg [.int .i64 1,.int .i64 n,.str E]):=by
 refine bM (af:=a173) rfl rfl ?_;unfold a173;dsimp only[List.map,aQ,aj];exact gN trivial k0;all_goals simp[bE,dep,gB,dt,E]
def rA(b:Bool):PS tb 210 [.bool b] (.agg [.int .i64 3,.int .i64 (if b then 1 else 0),.str E]):=by
 refine bM (af:=a210) rfl rfl ?_;unfold a210;dsimp only[List.map,aQ,aj];cases b<;>(repeat'(first|(simp(disch:=omega) only[go_sem,seval,reduceCtorEq])|with_reducible exact Ev.mk|((first|apply b5|apply bO)<;>intro a c<;>(simp(disch:=omega) only[go_sem,seval,reduceCtorEq,a])<;>clear a));all_goals simp[bE,dep,gB,gy,E])
def td(s:ByteArray)(h:bu H nx):CS tb 211 [.p (.str s)] H nx (gl (lC s) H nx):=by
 by_cases c:64<s.size
 .have a:(64:Int)<s.size:=ae;simp only[lC,aq c,gl];refine fZ (af:=Kt) rfl rfl ?_;unfold Kt;dsimp only[aj];exact gD (eY h.ba h.al h.no a) trivial trivial (@bu.d1 _ _ _ h λk=>gu 1006 k) k0
 .have a:¬(64:Int)<s.size:=ae;simp only[lC,an c,gl];refine fZ (af:=Kt) rfl rfl ?_;unfold Kt;dsimp only[aj];exact gN (eY h.ba h.al h.no a) k0;all_goals simp[fX]
end
end
section
open Go Go.Dv
abbrev gZ(x:Int×Int):PV:=.tuple [.int .i64 x.1,.int .i64 x.2]
def yX(a:Int):PS tb 209 [.int .i64 a] (gZ (qY a)):=by
 refine bM (af:=U9) rfl rfl ?_;unfold U9;dsimp only[List.map,aQ,aj];by_cases c:a=-9223372036854775808
 .subst c;refine gN trivial (k1 ?_);simp[bE,dep,gZ,qY]
 .refine gN c (k1 ?_);simp[bE,dep,gZ,qY,c]
def Nw(a b:Int):PS tb 234 [.int .i64 a,.int .i64 b] (gZ (rB a b)):=by
 refine bM (af:=a234) rfl rfl ?_;unfold a234;dsimp only[List.map,aQ,aj];rcases Int.lt_trichotomy b 0 with c|c|c
 .have e:¬0<b:=ae;by_cases d:a<ph (a+b)
  .refine gN (c9 c e d) (k1 ?_);simp[bE,dep,gZ,rB,c,e,d]
  .refine gN (c9 c e d) (k1 ?_);simp[bE,dep,gZ,rB,c,e,d]
 .subst c;refine gN trivial (k1 ?_);simp[bE,dep,gZ,rB]
 .have e:¬b<0:=ae;by_cases d:ph (a+b)<a
  .refine gN (c9 c e d) (k1 ?_);simp[bE,dep,gZ,rB,c,e,d]
  .refine gN (c9 c e d) (k1 ?_);simp[bE,dep,gZ,rB,c,e,d]
def Gj(a b:Int):PS tb 186 [.int .i64 a,.int .i64 b] (gZ (mh a b)):=by
 refine bM (af:=UK) rfl rfl ?_;unfold UK;dsimp only[List.map,aQ,aj];rcases Int.lt_trichotomy b 0 with c|c|c
 .have e:¬0<b:=ae;by_cases d:ph (a-b)<a
  .refine gN (c9 c e d) (k1 ?_);simp[bE,dep,gZ,mh,c,e,d]
  .refine gN (c9 c e d) (k1 ?_);simp[bE,dep,gZ,mh,c,e,d]
 .subst c;refine gN trivial (k1 ?_);simp[bE,dep,gZ,mh]
 .have e:¬b<0:=ae;by_cases d:a<ph (a-b)
  .refine gN (c9 c e d) (k1 ?_);simp[bE,dep,gZ,mh,c,e,d]
  .refine gN (c9 c e d) (k1 ?_);simp[bE,dep,gZ,mh,c,e,d]
def Nv(a b:Int):PS tb 235 [.int .i64 a,.int .i64 b] (gZ (qu a b)):=by
 refine bM (af:=Sz) rfl rfl ?_;unfold Sz;dsimp only[List.map,aQ,aj];by_cases c:a=0
 .subst c;refine gN trivial (k1 ?_);simp[bE,dep,gZ,qu]
 by_cases d:b=0
 .subst d;refine gN c (k1 ?_);simp[bE,dep,gZ,qu]
 by_cases e:a=-1
 .subst e;refine gP (bf c d) (yX b) (k1 ?_);simp[bE,dep,gZ,qu,c,d]
 by_cases f:b=-1
 .subst f;refine gP (c9 c d e) (yX a) (k1 ?_);simp[bE,dep,gZ,qu,c,d,e]
 by_cases g:ph ((ph (a*b)).tdiv b)=a
 .refine gN (dM c d e f g) (k1 ?_);simp[bE,dep,gZ,qu,c,d,e,f,g]
 .refine gN (dM c d e f g) (k1 ?_);simp[bE,dep,gZ,qu,c,d,e,f,g]
def NL(a b:Int):PS tb 236 [.int .i64 a,.int .i64 b] (gZ (sK a b)):=by
 refine bM (af:=a236) rfl rfl ?_;unfold a236;dsimp only[List.map,aQ,aj];by_cases c:b=0
 .subst c;refine gN trivial (k1 ?_);simp[bE,dep,gZ,sK]
 by_cases d:b=-1
 .subst d;refine gP c (yX a) (k1 ?_);simp[bE,dep,gZ,sK,c]
 by_cases e:a.tmod b=0
 .refine gN (c9 c d e) (k1 ?_);simp[bE,dep,gZ,sK,c,d,e]
 by_cases f:a<0<;>by_cases g:b<0<;>
 .refine gN (dM c d e f g) (k1 ?_);simp[bE,dep,gZ,sK,VY,c,d,e,f,g]
def NC(a b:Int):PS tb 237 [.int .i64 a,.int .i64 b] (gZ (sO a b)):=by
 refine bM (af:=R7) rfl rfl ?_;unfold R7;dsimp only[List.map,aQ,aj];by_cases c:b=0
 .subst c;refine gN trivial (k1 ?_);simp[bE,dep,gZ,sO]
 by_cases d:b=-1
 .subst d;refine gN c (k1 ?_);simp[bE,dep,gZ,sO,c]
 by_cases e:a.tmod b=0
 .refine gN (c9 c d e) (k1 ?_);simp[bE,dep,gZ,sO,c,d,e]
 by_cases f:a.tmod b<0<;>by_cases g:b<0<;>
 .refine gN (dM c d e f g) (k1 ?_);simp[bE,dep,gZ,sO,VY,c,d,e,f,g]
def S3(a:Int)(h:df a):PS tb 232 [.int .i64 a,.int .i64 10] (.str (qF a)):=by
 refine⟨0,?_⟩;have b:tb.A 232=none:=rfl;have c:tb.X=outside:=rfl;simp only[dG,b,c];simp[outside,aI.or,ln,pg,E4,AI,nO,Ll,nN,h.1,h.2]
def CT(a:Int)(h:df a):PS tb 212 [.int .i64 a] (.str (qF a)):=by
 refine bM (af:=a212) rfl rfl ?_;unfold a212;dsimp only[List.map,aQ,aj];exact gP trivial (S3 a h) k0
end
section
open Go Go.Dv
def Hh(a:Int):PS tb 183 [.int .i64 a] (.bool false):=by
 refine bM (af:=a183) rfl rfl ?_;unfold a183;dsimp only[List.map,aQ,aj];exact gN trivial k0
def AD(a:Int):PS tb 270 [.int .i64 a] (.bool false):=by
 refine bM (af:=Ti) rfl rfl ?_;unfold Ti;dsimp only[List.map,aQ,aj];exact gN trivial k0
def SX(a b:Int):PS tb 250 [.int .i64 a,.int .i64 b] (.int .i64 (sJ a b)):=by
 refine bM (af:=SR) rfl rfl ?_;unfold SR;dsimp only[List.map,aQ,aj];by_cases c:a<b
 .refine gP c (λ{e}=>Hh e) (k1 ?_);all_goals simp[bE,dep,sJ,c]
 .by_cases d:b<a
  .refine gP (bf c d) (λ{e}=>Hh e) (k1 ?_);all_goals simp[bE,dep,sJ,c,d]
  .refine gP (bf c d) (λ{e}=>Hh e) (k1 ?_);all_goals simp[bE,dep,sJ,c,d]
def Nj(a b:Int):PS tb 262 [.int .i64 a,.int .i64 b] (.int .i64 (sJ a b)):=by
 refine bM (af:=Sw) rfl rfl ?_;unfold Sw;dsimp only[List.map,aQ,aj];by_cases c:a<b
 .refine gP c (λ{e}=>AD e) (k1 ?_);all_goals simp[bE,dep,sJ,c]
 .by_cases d:b<a
  .refine gP (bf c d) (λ{e}=>AD e) (k1 ?_);all_goals simp[bE,dep,sJ,c,d]
  .refine gP (bf c d) (λ{e}=>AD e) (k1 ?_);all_goals simp[bE,dep,sJ,c,d]
def Kw(a b:ByteArray):PS tb 98 [.str a,.str b] (.int .i64 (pG a b)):=by
 refine⟨0,?_⟩;have c:tb.A 98=none:=rfl;have d:tb.X=outside:=rfl;simp only[dG,c,d];simp[outside,aI.or,ln,pg,E4,nN,AI,nO,Ll]
def Im(a b:bX):PS tb 251 [.agg (gB a++gB b)] (.int .i64 (sJ a.n b.n)):=by
 refine bM (af:=Uu) rfl rfl ?_;unfold Uu;dsimp only[List.map,aQ,aj,gB,List.cons_append,List.nil_append];exact gP trivial (λ{c d}=>Nj c d) k0
def IE(a b:bX):PS tb 252 [.agg (gB a++gB b)] (.int .i64 (pG a.s b.s)):=by
 refine bM (af:=Tj) rfl rfl ?_;unfold Tj;dsimp only[List.map,aQ,aj,gB,List.cons_append,List.nil_append];exact gP trivial (λ{c d}=>Kw c d) k0
def Rl(k n:Int)(s:ByteArray)(b a:Int)(c:ByteArray):PS tb 251 [.agg [.int .i64 k,.int .i64 n,.str s,.int .i64 b,.int .i64 a,.str c]] (.int .i64 (sJ n a)):=Im ⟨k,n,s⟩ ⟨b,a,c⟩
def QO(k n:Int)(s:ByteArray)(b c:Int)(a:ByteArray):PS tb 252 [.agg [.int .i64 k,.int .i64 n,.str s,.int .i64 b,.int .i64 c,.str a]] (.int .i64 (pG s a)):=IE ⟨k,n,s⟩ ⟨b,c,a⟩
def GA(a b:bX):PS tb 238 [.agg (gB a),.agg (gB b)] (.int .i64 (B8 a b)):=by
 refine bM (af:=S9) rfl rfl ?_;unfold S9;dsimp only[List.map,aQ,aj,gB];by_cases c:a.k=b.k
 .by_cases d:a.n=b.n
  .refine gP (bf c d) (λ{e f g h i j}=>QO e f g h i j) (k1 ?_);all_goals simp[bE,dep,B8,c,d]
  .refine gP (bf c d) (λ{e f g h i j}=>Rl e f g h i j) (k1 ?_);all_goals simp[bE,dep,B8,c,d]
 .refine gP c (λ{e f}=>SX e f) (k1 ?_);all_goals simp[bE,dep,B8,c]
section
variable{H:Heap}{nx:Nat}
def iV(x:Int×Int)(h:bu H nx):CS tb 208 [.p (.int .i64 x.1),.p (.int .i64 x.2)] H nx (gl (gi x) H nx):=by
 by_cases c:x.2=0
 .simp only[gi,aq c,gl];refine fZ (af:=a208) rfl rfl ?_;unfold a208;dsimp only[aj];refine gP (eY h.ba h.al h.no c) (λ{a}=>qf a) (k1 ?_);all_goals simp[fX,dt,gB]
 .by_cases d:x.2=4
  .simp only[gi,an c,aq d,gl];refine fZ (af:=a208) rfl rfl ?_;unfold a208;dsimp only[aj];exact gD (dM h.ba h.al h.no c d) trivial trivial (@bu.d1 _ _ _ h λk=>gu 1002 k) k0
  .simp only[gi,an c,an d,gl];refine fZ (af:=a208) rfl rfl ?_;unfold a208;dsimp only[aj];exact gD (dM h.ba h.al h.no c d) trivial trivial (@bu.d1 _ _ _ h λk=>gu 1001 k) k0
end
end
section
open Go Go.Dv
section
variable{H:Heap}{nx:Nat}
def js{f:FuncId}{l:List DV}{x:An}{v:bX}(h:CS tb f l H nx (gl x H nx))(e:x=.ok v):CS tb f l H nx (.inl (.agg [.p (.int .i64 v.k),.p (.int .i64 v.n),.p (.str v.s)],H,nx)):=by subst e;exact h
def jU{f:FuncId}{l:List DV}{x:An}{c:Int}(h:CS tb f l H nx (gl x H nx))(e:x=.error c):CS tb f l H nx (.inr (qz 2 c E,H)):=by subst e;exact h
def vf{P q:Prop}(k:q)(h:Bx q->P:=by
 intro k;refine fZ (af:=Tm) rfl rfl ?_;unfold Tm;dsimp only[aj,fX];exact k.q):P:=h ⟨k⟩
def j6(f a b:Int)(h:bu H nx):CS tb 214 [.p (.int .i64 f),.p (.int .i64 a),.p (.int .i64 b)] H nx (gl (fC f a b) H nx):=by
 by_cases g:f=4
 .subst g;have e:fC 4 a b=gi (rB a b):=by simp[fC]
  rw[e];rcases d:gi (rB a b)with c|v
  .simp only[gl];refine vf ?_;exact gD (c9 h.ba h.al h.no) (Nw a b) trivial (@bu.d1 _ _ _ h λk=>jU (iV (rB a b) k) d) k0
  .simp only[gl];refine vf ?_;exact gR (c9 h.ba h.al h.no) (Nw a b) (@bu.d1 _ _ _ h λk=>js (iV (rB a b) k) d) k0
 by_cases i:f=5
 .subst i;have e:fC 5 a b=gi (mh a b):=by simp[fC]
  rw[e];rcases d:gi (mh a b)with c|v
  .simp only[gl];refine vf ?_;exact gD (c9 h.ba h.al h.no) (Gj a b) trivial (@bu.d1 _ _ _ h λk=>jU (iV (mh a b) k) d) k0
  .simp only[gl];refine vf ?_;exact gR (c9 h.ba h.al h.no) (Gj a b) (@bu.d1 _ _ _ h λk=>js (iV (mh a b) k) d) k0
 by_cases j:f=6
 .subst j;have e:fC 6 a b=gi (qu a b):=by simp[fC]
  rw[e];rcases d:gi (qu a b)with c|v
  .simp only[gl];refine vf ?_;exact gD (c9 h.ba h.al h.no) (Nv a b) trivial (@bu.d1 _ _ _ h λk=>jU (iV (qu a b) k) d) k0
  .simp only[gl];refine vf ?_;exact gR (c9 h.ba h.al h.no) (Nv a b) (@bu.d1 _ _ _ h λk=>js (iV (qu a b) k) d) k0
 by_cases l:f=7
 .subst l;have e:fC 7 a b=gi (sK a b):=by simp[fC]
  rw[e];rcases d:gi (sK a b)with c|v
  .simp only[gl];refine vf ?_;exact gD (c9 h.ba h.al h.no) (NL a b) trivial (@bu.d1 _ _ _ h λk=>jU (iV (sK a b) k) d) k0
  .simp only[gl];refine vf ?_;exact gR (c9 h.ba h.al h.no) (NL a b) (@bu.d1 _ _ _ h λk=>js (iV (sK a b) k) d) k0
 have e:fC f a b=gi (sO a b):=by simp[fC,g,i,j,l]
 rw[e];rcases d:gi (sO a b)with c|v
 .simp only[gl];refine vf ?_;exact gD (uU h.ba h.al h.no g i j l) (NC a b) trivial (@bu.d1 _ _ _ h λk=>jU (iV (sO a b) k) d) k0
 .simp only[gl];refine vf ?_;exact gR (uU h.ba h.al h.no g i j l) (NC a b) (@bu.d1 _ _ _ h λk=>js (iV (sO a b) k) d) k0
def nc{P q:Prop}(k:q)(h:Bx q->P:=by
 intro k;refine fZ (af:=TM) rfl rfl ?_;unfold TM;dsimp only[aj,fX];exact k.q):P:=h ⟨k⟩
def Ba(f:Int)(a b:bX)(h:bu H nx):CS tb 215 [.p (.int .i64 f),fX a,fX b] H nx (gl (qC f a b) H nx):=by
 by_cases r:a.k=b.k/\(a.k=1\/a.k=2\/(a.k=3/\f<=11))
 .have e:qC f a b=.ok (gy (mi f (B8 a b))):=by unfold qC;exact aq r
  rw[e];simp only[gl];have n:=GA a b;simp only[gB]at n;generalize C:B8 a b=x at n;obtain⟨q,s⟩:=r;have c:∀t,t=mi f x->PS tb 210 [.bool t] (.agg [.int .i64 3,.int .i64 (gy (mi f x)).n,.str E]):=λt z=>by subst z;exact rA _
  have A:∀(k:Int),a.k=k->b.k=k->(k=1\/k=2\/(k=3/\f<=11))->CS tb 215 [.p (.int .i64 f),fX a,fX b] H nx (.inl (fX (gy (mi f x)),H,nx)):=by
   intro k o p s;rw[o,p]at n;rcases s with rfl|rfl|⟨rfl,u⟩
   .by_cases g:f=10
    .subst g;have d:=c (decide (x=0)) (by simp[mi]);refine nc ?_;refine gR (dM h.ba h.al h.no o p) (bf n d) (@bu.d3 _ _ _ h λk=>aK k) (k1 ?_);all_goals simp[gy,fX,E]
    by_cases i:f=11
    .subst i;have d:=c (!decide (x=0)) (by simp[mi]);refine nc ?_;refine gR (dM h.ba h.al h.no o p) (bf n d) (@bu.d3 _ _ _ h λk=>aK k) (k1 ?_);all_goals simp[gy,fX,E]
    by_cases j:f=12
    .subst j;have d:=c (decide (x<0)) (by simp[mi]);refine nc ?_;refine gR (dM h.ba h.al h.no o p) (bf n d) (@bu.d3 _ _ _ h λk=>aK k) (k1 ?_);all_goals simp[gy,fX,E]
    by_cases l:f=13
    .subst l;have d:=c (decide (x<=0)) (by simp[mi]);refine nc ?_;refine gR (dM h.ba h.al h.no o p) (bf n d) (@bu.d3 _ _ _ h λk=>aK k) (k1 ?_);all_goals simp[gy,fX,E]
    by_cases m:f=14
    .subst m;have d:=c (decide (0<x)) (by simp[mi]);refine nc ?_;refine gR (dM h.ba h.al h.no o p) (bf n d) (@bu.d3 _ _ _ h λk=>aK k) (k1 ?_);all_goals simp[gy,fX,E]
    have d:=c (decide (0<=x)) (by simp[mi,g,i,j,l,m]);refine nc ?_;refine gR (pL h.ba h.al h.no o p g i j l m) (bf n d) (@bu.d3 _ _ _ h λk=>aK k) (k1 ?_);all_goals simp[gy,fX,E]
   .by_cases g:f=10
    .subst g;have d:=c (decide (x=0)) (by simp[mi]);refine nc ?_;refine gR (dM h.ba h.al h.no o p) (bf n d) (@bu.d3 _ _ _ h λk=>aK k) (k1 ?_);all_goals simp[gy,fX,E]
    by_cases i:f=11
    .subst i;have d:=c (!decide (x=0)) (by simp[mi]);refine nc ?_;refine gR (dM h.ba h.al h.no o p) (bf n d) (@bu.d3 _ _ _ h λk=>aK k) (k1 ?_);all_goals simp[gy,fX,E]
    by_cases j:f=12
    .subst j;have d:=c (decide (x<0)) (by simp[mi]);refine nc ?_;refine gR (dM h.ba h.al h.no o p) (bf n d) (@bu.d3 _ _ _ h λk=>aK k) (k1 ?_);all_goals simp[gy,fX,E]
    by_cases l:f=13
    .subst l;have d:=c (decide (x<=0)) (by simp[mi]);refine nc ?_;refine gR (dM h.ba h.al h.no o p) (bf n d) (@bu.d3 _ _ _ h λk=>aK k) (k1 ?_);all_goals simp[gy,fX,E]
    by_cases m:f=14
    .subst m;have d:=c (decide (0<x)) (by simp[mi]);refine nc ?_;refine gR (dM h.ba h.al h.no o p) (bf n d) (@bu.d3 _ _ _ h λk=>aK k) (k1 ?_);all_goals simp[gy,fX,E]
    have d:=c (decide (0<=x)) (by simp[mi,g,i,j,l,m]);refine nc ?_;refine gR (pL h.ba h.al h.no o p g i j l m) (bf n d) (@bu.d3 _ _ _ h λk=>aK k) (k1 ?_);all_goals simp[gy,fX,E]
   .by_cases g:f=10
    .subst g;have d:=c (decide (x=0)) (by simp[mi]);refine nc ?_;refine gR (dM h.ba h.al h.no o p) (bf n d) (@bu.d3 _ _ _ h λk=>aK k) (k1 ?_);all_goals simp[gy,fX,E]
    by_cases i:f=11
    .subst i;have d:=c (!decide (x=0)) (by simp[mi]);refine nc ?_;refine gR (dM h.ba h.al h.no o p) (bf n d) (@bu.d3 _ _ _ h λk=>aK k) (k1 ?_);all_goals simp[gy,fX,E]
    have j:¬f=12:=ae;have l:¬f=13:=ae;have m:¬f=14:=ae;have d:=c (decide (0<=x)) (by simp[mi,g,i,j,l,m]);refine nc ?_;refine gR (j0 h.ba h.al h.no o p g i j l m u) (bf n d) (@bu.d3 _ _ _ h λk=>aK k) (k1 ?_);all_goals simp[gy,fX,E]
  exact A a.k rfl q.symm s
 .have e:qC f a b=.error 1009:=by unfold qC;exact an r
  rw[e];simp only[gl];by_cases q:a.k=b.k
  .have w:¬b.k=1:=λe=>r ⟨q,.inl (q.trans e)⟩
   have y:¬b.k=2:=λe=>r ⟨q,.inr (.inl (q.trans e))⟩
   by_cases v:b.k=3
   .have B:¬f<=11:=λe=>r ⟨q,.inr (.inr ⟨q.trans v,e⟩)⟩
    refine nc ?_;exact gD (Gg h.ba h.al h.no q w y v B) trivial trivial (@bu.d3 _ _ _ h λk=>b8 k) k0
   .skip
    refine nc ?_;exact gD (uU h.ba h.al h.no q w y v) trivial trivial (@bu.d3 _ _ _ h λk=>b8 k) k0
  .skip
   refine nc ?_;exact gD (eY h.ba h.al h.no q) trivial trivial (@bu.d3 _ _ _ h λk=>b8 k) k0
end
end
section
open Go Go.Dv
def Nt{a b:ByteArray}(c:a.size<=1048576)(d:b.size<=1048576):fA .add a b=some (.str (a++b)):=by
 have:fA .add a b=if a.size+b.size<=140737488355328 then some (.str (a++b))else none:=rfl
 rw[this,aq ae]
section
variable{H:Heap}{nx:Nat}
def iA{P q:Prop}(k:q)(h:Bx q->P:=by
 intro k;refine fZ (af:=a175) rfl rfl ?_;unfold a175;dsimp only[aj,fX];exact k.q):P:=h ⟨k⟩
def DU(j:Int)(a b:bX)(u:a.s.size<=1048576)(w:b.s.size<=1048576)(h:bu H nx):CS tb 175 [.p (.int .i64 j),fX a,fX b] H nx (gl (dv j a b) H nx):=by
 by_cases o:j=4
 .subst o;by_cases g:a.k=1/\b.k=1
  .obtain⟨d,f⟩:=g;have i:dv 4 a b=fC 4 a.n b.n:=by simp[dv,d,f]
   rw[i];rcases e:fC 4 a.n b.n with c|v
   .simp only[gl];refine iA ?_;exact gD (dM h.ba h.al h.no d f) trivial (@bu.d3 _ _ _ h λk=>aK k) (@bu.d3 _ _ _ h λk=>jU (j6 4 a.n b.n k) e) k0
   .simp only[gl];refine iA ?_;exact gR (dM h.ba h.al h.no d f) trivial (bf (@bu.d3 _ _ _ h λk=>aK k) (@bu.d3 _ _ _ h λk=>js (j6 4 a.n b.n k) e)) k0
  .skip
   by_cases d:a.k=1
   .have f:¬b.k=1:=λe=>g ⟨d,e⟩
    have em:dv 4 a b=.error 1009:=by simp[dv,d,f]
    rw[em];simp only[gl];refine iA ?_;exact gD (dM h.ba h.al h.no d f) trivial trivial (@bu.d3 _ _ _ h λk=>b8 k) k0
   .skip
    have em:dv 4 a b=.error 1009:=by simp[dv,d]
    rw[em];simp only[gl];refine iA ?_;exact gD (eY h.ba h.al h.no d) trivial trivial (@bu.d3 _ _ _ h λk=>b8 k) k0
 by_cases p:j=5
 .subst p;by_cases g:a.k=1/\b.k=1
  .obtain⟨d,f⟩:=g;have i:dv 5 a b=fC 5 a.n b.n:=by simp[dv,d,f]
   rw[i];rcases e:fC 5 a.n b.n with c|v
   .simp only[gl];refine iA ?_;exact gD (dM h.ba h.al h.no d f) trivial (@bu.d3 _ _ _ h λk=>aK k) (@bu.d3 _ _ _ h λk=>jU (j6 5 a.n b.n k) e) k0
   .simp only[gl];refine iA ?_;exact gR (dM h.ba h.al h.no d f) trivial (bf (@bu.d3 _ _ _ h λk=>aK k) (@bu.d3 _ _ _ h λk=>js (j6 5 a.n b.n k) e)) k0
  .skip
   by_cases d:a.k=1
   .have f:¬b.k=1:=λe=>g ⟨d,e⟩
    have em:dv 5 a b=.error 1009:=by simp[dv,d,f]
    rw[em];simp only[gl];refine iA ?_;exact gD (dM h.ba h.al h.no d f) trivial trivial (@bu.d3 _ _ _ h λk=>b8 k) k0
   .skip
    have em:dv 5 a b=.error 1009:=by simp[dv,d]
    rw[em];simp only[gl];refine iA ?_;exact gD (eY h.ba h.al h.no d) trivial trivial (@bu.d3 _ _ _ h λk=>b8 k) k0
 by_cases q:j=6
 .subst q;by_cases g:a.k=1/\b.k=1
  .obtain⟨d,f⟩:=g;have i:dv 6 a b=fC 6 a.n b.n:=by simp[dv,d,f]
   rw[i];rcases e:fC 6 a.n b.n with c|v
   .simp only[gl];refine iA ?_;exact gD (dM h.ba h.al h.no d f) trivial (@bu.d3 _ _ _ h λk=>aK k) (@bu.d3 _ _ _ h λk=>jU (j6 6 a.n b.n k) e) k0
   .simp only[gl];refine iA ?_;exact gR (dM h.ba h.al h.no d f) trivial (bf (@bu.d3 _ _ _ h λk=>aK k) (@bu.d3 _ _ _ h λk=>js (j6 6 a.n b.n k) e)) k0
  .skip
   by_cases d:a.k=1
   .have f:¬b.k=1:=λe=>g ⟨d,e⟩
    have em:dv 6 a b=.error 1009:=by simp[dv,d,f]
    rw[em];simp only[gl];refine iA ?_;exact gD (dM h.ba h.al h.no d f) trivial trivial (@bu.d3 _ _ _ h λk=>b8 k) k0
   .skip
    have em:dv 6 a b=.error 1009:=by simp[dv,d]
    rw[em];simp only[gl];refine iA ?_;exact gD (eY h.ba h.al h.no d) trivial trivial (@bu.d3 _ _ _ h λk=>b8 k) k0
 by_cases r:j=7
 .subst r;by_cases g:a.k=1/\b.k=1
  .obtain⟨d,f⟩:=g;have i:dv 7 a b=fC 7 a.n b.n:=by simp[dv,d,f]
   rw[i];rcases e:fC 7 a.n b.n with c|v
   .simp only[gl];refine iA ?_;exact gD (dM h.ba h.al h.no d f) trivial (@bu.d3 _ _ _ h λk=>aK k) (@bu.d3 _ _ _ h λk=>jU (j6 7 a.n b.n k) e) k0
   .simp only[gl];refine iA ?_;exact gR (dM h.ba h.al h.no d f) trivial (bf (@bu.d3 _ _ _ h λk=>aK k) (@bu.d3 _ _ _ h λk=>js (j6 7 a.n b.n k) e)) k0
  .skip
   by_cases d:a.k=1
   .have f:¬b.k=1:=λe=>g ⟨d,e⟩
    have em:dv 7 a b=.error 1009:=by simp[dv,d,f]
    rw[em];simp only[gl];refine iA ?_;exact gD (dM h.ba h.al h.no d f) trivial trivial (@bu.d3 _ _ _ h λk=>b8 k) k0
   .skip
    have em:dv 7 a b=.error 1009:=by simp[dv,d]
    rw[em];simp only[gl];refine iA ?_;exact gD (eY h.ba h.al h.no d) trivial trivial (@bu.d3 _ _ _ h λk=>b8 k) k0
 by_cases s:j=8
 .subst s;by_cases g:a.k=1/\b.k=1
  .obtain⟨d,f⟩:=g;have i:dv 8 a b=fC 8 a.n b.n:=by simp[dv,d,f]
   rw[i];rcases e:fC 8 a.n b.n with c|v
   .simp only[gl];refine iA ?_;exact gD (dM h.ba h.al h.no d f) trivial (@bu.d3 _ _ _ h λk=>aK k) (@bu.d3 _ _ _ h λk=>jU (j6 8 a.n b.n k) e) k0
   .simp only[gl];refine iA ?_;exact gR (dM h.ba h.al h.no d f) trivial (bf (@bu.d3 _ _ _ h λk=>aK k) (@bu.d3 _ _ _ h λk=>js (j6 8 a.n b.n k) e)) k0
  .skip
   by_cases d:a.k=1
   .have f:¬b.k=1:=λe=>g ⟨d,e⟩
    have em:dv 8 a b=.error 1009:=by simp[dv,d,f]
    rw[em];simp only[gl];refine iA ?_;exact gD (dM h.ba h.al h.no d f) trivial trivial (@bu.d3 _ _ _ h λk=>b8 k) k0
   .skip
    have em:dv 8 a b=.error 1009:=by simp[dv,d]
    rw[em];simp only[gl];refine iA ?_;exact gD (eY h.ba h.al h.no d) trivial trivial (@bu.d3 _ _ _ h λk=>b8 k) k0
 by_cases l:j=16
 .subst l;by_cases g:a.k=3/\b.k=3
  .obtain⟨d,f⟩:=g;have i:dv 16 a b=.ok (gy (decide (a.n=1)&&decide (b.n=1))):=by simp[dv,d,f]
   rw[i];simp only[gl];by_cases x:a.n=1<;>by_cases y:b.n=1<;>
   .skip
    refine iA ?_;refine gR (uU h.ba h.al h.no d f x y) (λ{t}=>rA t) (@bu.d3 _ _ _ h λk=>aK k) (k1 ?_);all_goals simp[gy,x,y]
  .skip
   by_cases d:a.k=3
   .have f:¬b.k=3:=λe=>g ⟨d,e⟩
    have em:dv 16 a b=.error 1009:=by simp[dv,d,f]
    rw[em];simp only[gl];refine iA ?_;exact gD (dM h.ba h.al h.no d f) trivial trivial (@bu.d3 _ _ _ h λk=>b8 k) k0
   .skip
    have em:dv 16 a b=.error 1009:=by simp[dv,d]
    rw[em];simp only[gl];refine iA ?_;exact gD (eY h.ba h.al h.no d) trivial trivial (@bu.d3 _ _ _ h λk=>b8 k) k0
 by_cases m:j=17
 .subst m;by_cases g:a.k=3/\b.k=3
  .obtain⟨d,f⟩:=g;have i:dv 17 a b=.ok (gy (decide (a.n=1)||decide (b.n=1))):=by simp[dv,d,f]
   rw[i];simp only[gl];by_cases x:a.n=1<;>by_cases y:b.n=1<;>
   .skip
    refine iA ?_;refine gR (uU h.ba h.al h.no d f x y) (λ{t}=>rA t) (@bu.d3 _ _ _ h λk=>aK k) (k1 ?_);all_goals simp[gy,x,y]
  .skip
   by_cases d:a.k=3
   .have f:¬b.k=3:=λe=>g ⟨d,e⟩
    have em:dv 17 a b=.error 1009:=by simp[dv,d,f]
    rw[em];simp only[gl];refine iA ?_;exact gD (dM h.ba h.al h.no d f) trivial trivial (@bu.d3 _ _ _ h λk=>b8 k) k0
   .skip
    have em:dv 17 a b=.error 1009:=by simp[dv,d]
    rw[em];simp only[gl];refine iA ?_;exact gD (eY h.ba h.al h.no d) trivial trivial (@bu.d3 _ _ _ h λk=>b8 k) k0
 by_cases n:j=19
 .subst n;by_cases g:a.k=2/\b.k=2
  .obtain⟨d,f⟩:=g;have i:dv 19 a b=lC (a.s++b.s):=by simp[dv,d,f]
   rw[i];rcases e:lC (a.s++b.s)with c|v
   .simp only[gl];refine iA ?_;exact gD (pS h.ba h.al h.no d f (Nt u w)) trivial (@bu.d3 _ _ _ h λk=>aK k) (@bu.d3 _ _ _ h λk=>jU (td (a.s++b.s) k) e) k0
   .simp only[gl];refine iA ?_;exact gR (pS h.ba h.al h.no d f (Nt u w)) trivial (bf (@bu.d3 _ _ _ h λk=>aK k) (@bu.d3 _ _ _ h λk=>js (td (a.s++b.s) k) e)) k0
  .skip
   by_cases d:a.k=2
   .have f:¬b.k=2:=λe=>g ⟨d,e⟩
    have em:dv 19 a b=.error 1009:=by simp[dv,d,f]
    rw[em];simp only[gl];refine iA ?_;exact gD (dM h.ba h.al h.no d f) trivial trivial (@bu.d3 _ _ _ h λk=>b8 k) k0
   .skip
    have em:dv 19 a b=.error 1009:=by simp[dv,d]
    rw[em];simp only[gl];refine iA ?_;exact gD (eY h.ba h.al h.no d) trivial trivial (@bu.d3 _ _ _ h λk=>b8 k) k0
 have i:dv j a b=qC j a b:=by simp[dv,o,p,q,r,s,l,m,n]
 rw[i];rcases e:qC j a b with c|v
 .simp only[gl];refine iA ?_;exact gD (j0 h.ba h.al h.no o p q r s l m n) trivial trivial (@bu.d3 _ _ _ h λk=>jU (Ba j a b k) e) k0
 .simp only[gl];refine iA ?_;exact gR (j0 h.ba h.al h.no o p q r s l m n) trivial (@bu.d3 _ _ _ h λk=>js (Ba j a b k) e) k0
end
end
section
open Go Go.Dv
end
section
open Go Go.Dv
def dd(l:List ByteArray):Nat->List ByteArray
 |0=>[]
 |n+1=>dd l n++if n=0\/l.getD n E≠l.getD (n-1) E then[l.getD n E]else[]
end
section
open Go Go.Dv
def PH(s:ByteArray):PS tb 154 [.str s] (.bool false):=by
 refine bM (af:=a154) rfl rfl ?_;unfold a154;dsimp only[List.map,aQ,aj];exact gN trivial k0
def Cb(s:ByteArray):PS tb 126 [.str s] (.bool false):=by
 refine bM (af:=S6) rfl rfl ?_;unfold S6;dsimp only[List.map,aQ,aj];exact gN trivial k0
def Tw(a c:ByteArray):PS tb 125 [.str a,.str c] (.bool (slt a c)):=by
 refine bM (af:=Tz) rfl rfl ?_;unfold Tz;dsimp only[List.map,aQ,aj];exact gP trivial (λ{b}=>PH b) k0
def PU(n:Nat):((n:Int).fdiv (2^min 1 64))=((n/2:Nat):Int):=by
 have e:(2:Int)^min 1 64=2:=rfl;rw[e,Int.fdiv_eq_ediv_of_nonneg _ ae];rfl
end
end Go.Dv.Tryz
