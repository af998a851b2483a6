/- Lemmas for the law of this claim. -/
import Derived.Test.YtcphhjkcgikdgaaGreatDoorP24
set_option linter.all false
set_option maxRecDepth 100000
set_option maxHeartbeats 8000000
namespace Go.Dv.Tryz
section
open Go Go.Dv
abbrev VM:=ByteArray->Option dY
def pP(f:VM)(k:ByteArray)(v:dY):VM:=λj=>if j=k then some v else f j
structure MS where
 vn:Nat
 vars:VM
 on:Nat
 own:VM
 out:List dY
 reads:List ByteArray
 dm:List ByteArray
 steps:Int
inductive Rs(α:Type) where
 |ok (a:α) (m:MS)
 |no (st code:Int) (OQ:ByteArray) (m:MS)
def Rs.bind{b d:Type}:Rs b->(b->MS->Rs d)->Rs d
 | .ok a m,f=>f a m
 | .no e c k m,_=>.no e c k m
def b9{a:Type}(c:Int)(m:MS):Rs a:=.no 2 c E m
structure Cz where
 g:ByteArray->dY
 all:Bool
 rd:List ByteArray
 wr:List ByteArray
def iG(c:Cz)(a:ByteArray)(m:MS):Rs dY:=
 if lK a then match m.own a with
  |some v=>.ok v m
  |none=>if !c.all&&!hasB c.rd a then .no 3 0 a m else .ok (c.g a) {m with reads:=ins a m.reads}
 else b9 1004 m
def iA(c:Cz)(a:ByteArray)(v:dY)(m:MS):Rs Unit:=
 if lK a then if !c.all&&!hasB c.wr a then .no 3 0 a m
  else .ok () {m with dm:=ins a m.dm,own:=pP m.own a v,on:=if(m.own a).isSome then m.on else m.on+1}
 else b9 1004 m
def s9(v:dY)(m:MS):Rs Unit:=if m.out.length=16 then b9 1007 m else .ok () {m with out:=m.out++[v]}
def lN(m:MS):Rs Unit:=if 16384<m.steps+1 then b9 1008 {m with steps:=m.steps+1}else .ok () {m with steps:=m.steps+1}
def lY(k:ByteArray)(v:dY)(m:MS):MS:={m with vars:=pP m.vars k v,vn:=if(m.vars k).isSome then m.vn else m.vn+1}
abbrev An:=Except Int dY
def j1(n:Int):dY:=⟨1,n,E⟩
def iw(b:Bool):dY:=⟨3,if b then 1 else 0,E⟩
def oc(s:ByteArray):An:=if 64<s.size then .error 1006 else .ok ⟨2,0,s⟩
def iB(x:Int×Int):An:=if x.2=0 then .ok (j1 x.1)else if x.2=4 then .error 1002 else .error 1001
abbrev qG(n:Int):Int:=IntKind.i64.wrap n
def tt(a:Int):Int×Int:=if a=-9223372036854775808 then(0,3)else(qG (0-a),0)
def rS(a b:Int):Int×Int:=if(decide (0<b)&&decide (qG (a+b)<a))||(decide (b<0)&&decide (a<qG (a+b)))then(0,3)else(qG (a+b),0)
def rJ(a b:Int):Int×Int:=if(decide (0<b)&&decide (a<qG (a-b)))||(decide (b<0)&&decide (qG (a-b)<a))then(0,3)else(qG (a-b),0)
def qU(a b:Int):Int×Int:=
 if a=0\/b=0 then(0,0)else if a=-1 then tt b else if b=-1 then tt a
 else if qG ((qG (a*b)).tdiv b)≠a then(0,3)else(qG (a*b),0)
def W0(a b:Int):Bool:=decide (a<0)!=decide (b<0)
def tF(a b:Int):Int×Int:=
 if b=0 then(0,4)else if b=-1 then tt a
 else if a.tmod b≠0/\W0 a b=true then(qG (qG (a.tdiv b)-1),0)else(qG (a.tdiv b),0)
def tu(a b:Int):Int×Int:=
 if b=0 then(0,4)else if b=-1 then(0,0)
 else if a.tmod b≠0/\W0 (a.tmod b) b=true then(qG (a.tmod b+b),0)else(a.tmod b,0)
def fQ(c a b:Int):An:=iB (if c=4 then rS a b else if c=5 then rJ a b else if c=6 then qU a b else if c=7 then tF a b else tu a b)
def tm(a b:Int):Int:=if a<b then-1 else if b<a then 1 else 0
def Df(a b:dY):Int:=if a.k≠b.k then tm a.k b.k else if a.n=b.n then qb a.s b.s else tm a.n b.n
def mO(a x:Int):Bool:=if a=10 then decide (x=0)else if a=11 then !decide (x=0)else if a=12 then decide (x<0)else if a=13 then decide (x<=0)else if a=14 then decide (0<x)else decide (0<=x)
def ta(c:Int)(a b:dY):An:=if a.k=b.k/\(a.k=1\/a.k=2\/(a.k=3/\c<=11))then .ok (iw (mO c (Df a b)))else .error 1009
def dM(c:Int)(a b:dY):An:=
 if c=4\/c=5\/c=6\/c=7\/c=8 then(if a.k=1/\b.k=1 then fQ c a.n b.n else .error 1009)
 else if c=16 then(if a.k=3/\b.k=3 then .ok (iw (decide (a.n=1)&&decide (b.n=1)))else .error 1009)
 else if c=17 then(if a.k=3/\b.k=3 then .ok (iw (decide (a.n=1)||decide (b.n=1)))else .error 1009)
 else if c=19 then(if a.k=2/\b.k=2 then oc (a.s++b.s)else .error 1009)
 else ta c a b
def lM(x:An)(m:MS):Rs dY:=match x with
 | .ok v=>.ok v m
 | .error c=>b9 c m
def mR(a:Int)(v:dY):An:=
 if a=24 then .ok (iw (!decide (v.k=0)))
 else if a=22/\v.k=0 then .ok (j1 0)
 else if a=23/\v.k=0 then oc E
 else if(a=22/\¬v.k=1)\/(a=23/\¬v.k=2)then .error 1003
 else .ok v
def lA(c:Cz)(b:Int)(a:dY)(m:MS):Rs dY:=
 if b=9 then(if a.k=1 then lM (iB (tt a.n)) m else b9 1009 m)
 else if b=18 then(if a.k=3 then .ok (iw (decide (a.n=0))) m else b9 1009 m)
 else if b=20 then(if a.k=1 then lM (oc (wS a.n)) m else b9 1009 m)
 else if b=21 then(if a.k=2 then .ok (j1 a.s.size) m else b9 1009 m)
 else if a.k=2 then(iG c a.s m).bind λv m=>lM (mR b v) m
 else b9 1009 m
def AO(c:Cz)(d:Int)(l:List dY)(m:MS):Rs dY:=match l with
 |[a]=>lA c d a m
 |[a,b]=>lM (dM d a b) m
 |_=>b9 1009 m
mutual
def eO(c:Cz):bj->MS->Rs dY
 | .mk a n s _ b,m=>
  if a=1 then .ok (j1 n) m
  else if a=2 then .ok ⟨2,0,s⟩ m
  else if a=3 then match m.vars s with
   |some v=>.ok v m
   |none=>b9 1009 m
  else(jc c b m).bind (AO c a)
def jc(c:Cz):List bj->MS->Rs (List dY)
 |[],m=>.ok [] m
 |e::r,m=>(eO c e m).bind λv m=>(jc c r m).bind λl m=>.ok (v::l) m
end
def pV(f:Int->MS->Rs Unit):Nat->Int->MS->Rs Unit
 |0,_,m=>.ok () m
 |n+1,i,m=>(f i m).bind λ_ m=>pV f n (i+1) m
abbrev u64(n:Int):Int:=IntKind.u64.wrap n
def uF(a b max:Int):Bool:=decide (a<b)&&decide (u64 max<u64 (u64 b-u64 a))
mutual
def cC(c:Cz):cl->MS->Rs Unit
 | .mk d name max a b _ e _ f,m=>
  if d=1\/d=2 then(eO c a m).bind λv m=>.ok () (lY name v m)
  else if d=3 then(eO c a m).bind λk m=>(eO c b m).bind λv m=>if k.k=2/\(v.k=1\/v.k=2)then iA c k.s v m else b9 1009 m
  else if d=4 then(eO c a m).bind λk m=>if k.k=2 then iA c k.s V0 m else b9 1009 m
  else if d=5 then(eO c a m).bind λx m=>if x.k=3 then(if x.n=1 then cJ c e m else cJ c f m)else b9 1009 m
  else if d=6 then(eO c a m).bind λx m=>(eO c b m).bind λy m=>if x.k=1/\y.k=1 then
   (if uF x.n y.n max then b9 1005 m else pV (λi m=>(lN m).bind λ_ m=>cJ c e (lY name (j1 i) m)) (y.n-x.n).toNat x.n m)else b9 1009 m
  else if d=7 then(eO c a m).bind λv m=>if v.k=1\/v.k=2 then s9 v m else b9 1009 m
  else if d=8 then b9 max m
  else .ok () m
def cJ(c:Cz):List cl->MS->Rs Unit
 |[],m=>.ok () m
 |s::r,m=>(lN m).bind λ_ m=>(cC c s m).bind λ_ m=>cJ c r m
end
def jh:Rs Unit->Ef
 | .ok _ m=>⟨1,0,false,m.out,false,m.reads,false,m.dm,false,m.dm.map λk=>⟨k,(m.own k).getD V0⟩,E,m.steps⟩
 | .no c a b m=>⟨c,a,true,[],false,m.reads,false,m.dm,false,[],b,m.steps⟩
end
section
open Go Go.Dv
def Qj(n k:Nat):(n==n+k)=(k==0):=by rw[HX,cH,cH];omega
def Rb(n k:Nat):(n+k==n)=(k==0):=by rw[HX,cH,cH];omega
def Rz(n k j:Nat):(n+k==n+j)=(k==j):=by rw[HX,cH,cH];omega
def UR(n k:Nat):(n+k<n)=False:=az
def Vl(n k:Nat):(n<n+k)=(0<k):=az
def S6(n k j:Nat):(n+k<n+j)=(k<j):=az
def UW(n k:Nat):(n<=n+k)=True:=az
def Ki(a b:Int):(a==b)=decide (a=b):=by rw[HX,cH,decide_eq_true_iff]
def TN(a b:Int):(a !=b)=!decide (a=b):=by rw[bne,Ki]
def SI(n k:Nat):(n=n+k)=(k=0):=by rw[GS];omega
def TC(n k:Nat):(n+k=n)=(k=0):=by rw[GS];omega
def U7(n k j:Nat):(n+k=n+j)=(k=j):=by rw[GS];omega
attribute [go_sem] Nat.add_assoc SI TC U7 Ki TN Qj Rb Rz UR Vl S6 UW Ul Vb Left
section
variable{T:dw}{s s':St}{K:Ex->St->Prop}{o:aj}{f:FuncId}{l:List DV}
def IS{k:List Nat}{r:List (aj×List Nat)}{v:PV}{H:Heap}(a:Ev (oU s o) (some (f,l)))(b:CS T f l s.heap s.next (.inr (v,H)))(h:K (.panic v) {s with env:=[],heap:=H}):MF T o k r s K:=
 S1 a b (λ_ e=>by cases e) λ_ _ e=>by cases e;exact h
def cW{pre:List aj}{a:aj}{post:List aj}{b:List Nat}{c:St}{v:DV}{H:Heap}{n:Nat}(d:Ev (oU s a) (some (f,l)))(g:CS T f l s.heap s.next (.inl (v,H,n)))
  (h:cv T pre {c with heap:=H,next:=n} (KR T s (jF s a.dst (v,H,n)) post b K)):GL T pre a post b c s K:=
 Kt d g (λ_ e=>by cases e;exact h) λ_ _ e=>by cases e
def Oj{pre:List aj}{a:aj}{post:List aj}{b:List Nat}{c:St}{v:PV}{H:Heap}(d:Ev (oU s a) (some (f,l)))(g:CS T f l s.heap s.next (.inr (v,H)))
  (h:K (.panic v) {c with env:=[],heap:=H}):GL T pre a post b c s K:=
 Kt d g (λ_ e=>by cases e) λ_ _ e=>by cases e;exact h
end
structure bn(H:Heap)(nx:Nat):Prop where
 ba:∀c,nx<=c->aD c H=H
 al:∀c,nx<=c->de c H=true
 no:∀c,nx<=c->ag H c=none
def fM{c a:Nat}(b:c<=a):∀(n:Nat) (d:DV),below c n d=true->below a n d=true
 |0,_,h=>by simp[below]at h
 |n+1,d,h=>by
  cases d<;>simp only[below,List.all_eq_true,df]at h⊢<;>first|omega|exact λx e=>fM b n x (h x e)
def bq.fM{c e:Nat}(d:c<=e){b:bq}(h:b.below c=true):b.below e=true:=by
 cases b with
 |var f p=>simp only[bq.below,List.all_eq_true]at h⊢;exact λx a=>Tryz.fM d _ _ (h x a)
 |row f j k=>rfl
 |aV f j k=>simp only[bq.below,List.all_eq_true]at h⊢;exact λx a y m=>Tryz.fM d _ _ (h x a y m)
 |map f i=>cases i with
  |strs n g=>rfl
  |ints i=>simp only[bq.below,List.all_eq_true]at h⊢;exact λx a=>Tryz.fM d _ _ (h x a)
def bn.cons{H:Heap}{a:Nat}{b:bq}(h:bn H a)(e:b.below (a+1)=true):bn ((a,b)::H) (a+1):=
 ⟨λc d=>by rw[aD,aq ae,h.ba c ae],λc d=>by simp only[de,aL];exact⟨bq.fM d e,h.al c ae⟩,λc d=>by rw[aw,ak ae];exact h.no c ae⟩
def bn.c1{H:Heap}{a:Nat}{b:bq}(h:bn H a)(c:b.below (a+1)=true:=by rfl):bn ((a,b)::H) (a+1):=h.cons c
def bn.c2{H:Heap}{a:Nat}{b c:bq}(h:bn H a)(d:b.below (a+1)=true:=by rfl)(e:c.below (a+1+1)=true:=by rfl):bn ((a+1,c)::(a,b)::H) (a+2):=(h.cons d).cons e
def bn.c3{H:Heap}{a:Nat}{b c d:bq}(h:bn H a)(e:b.below (a+1)=true:=by rfl)(g:c.below (a+1+1)=true:=by rfl)(i:d.below (a+2+1)=true:=by rfl):bn ((a+2,d)::(a+1,c)::(a,b)::H) (a+3):=((h.cons e).cons g).cons i
def bn.d1{P:Heap->Nat->Prop}{H:Heap}{a:Nat}(h:bn H a)(f:∀{c:Heap} {d:Nat},bn c d->P c d){b:bq}(e:b.below (a+1)=true:=by rfl):P ((a,b)::H) (a+1):=f (h.c1 e)
def bn.d2{P:Heap->Nat->Prop}{H:Heap}{a:Nat}(h:bn H a)(f:∀{d:Heap} {e:Nat},bn d e->P d e){b c:bq}(g:b.below (a+1)=true:=by rfl)(i:c.below (a+1+1)=true:=by rfl):P ((a+1,c)::(a,b)::H) (a+2):=f (h.c2 g i)
def bn.d3{P:Heap->Nat->Prop}{H:Heap}{a:Nat}(h:bn H a)(f:∀{e:Heap} {g:Nat},bn e g->P e g){b c d:bq}(i:b.below (a+1)=true:=by rfl)(j:c.below (a+1+1)=true:=by rfl)(k:d.below (a+2+1)=true:=by rfl):P ((a+2,d)::(a+1,c)::(a,b)::H) (a+3):=f (h.c3 i j k)
def te(c a:Int)(b:ByteArray):PV:=.iface 153 (.agg [.int .i64 c,.int .i64 a,.slice true [],.str b])
def gL(c:Int){H:Heap}{a:Nat}(h:bn H a):CS tb 136 [.p (.int .i64 c)] H a (.inr (te 2 c E,H)):=by
 refine hZ (af:=Sr) rfl rfl ?_;unfold Sr;dsimp only[ai];refine gN (bA h.ba h.al) (k1 ?_);simp[te,E]
def Bz(k:ByteArray){H:Heap}{a:Nat}(h:bn H a):CS tb 176 [.p (.str k)] H a (.inr (te 3 0 k,H)):=by
 refine hZ (af:=Tf) rfl rfl ?_;unfold Tf;dsimp only[ai];refine gN (bA h.ba h.al) (k1 ?_);simp[te]
end
section
open Go Go.Dv
abbrev Q:=(DV×Heap×Nat)⊕(PV×Heap)
abbrev gJ(v:dY):DV:=.agg [.p (.int .i64 v.k),.p (.int .i64 v.n),.p (.str v.s)]
def gI(x:An)(H:Heap)(nx:Nat):Q:=match x with
 | .ok v=>.inl (gJ v,H,nx)
 | .error c=>.inr (te 2 c E,H)
section
variable{H:Heap}{nx:Nat}
def aM(h:bn H nx):CS tb 138 [.p (.bool true)] H nx (.inl (.tuple [],H,nx)):=by
 refine hZ (af:=a138) rfl rfl ?_;unfold a138;dsimp only[ai];exact gN (dS h.ba h.al h.no) k0
def cq(h:bn H nx):CS tb 138 [.p (.bool false)] H nx (.inr (te 2 1009 E,H)):=by
 refine hZ (af:=a138) rfl rfl ?_;unfold a138;dsimp only[ai];exact gD (dS h.ba h.al h.no) trivial trivial (gL 1009 h) k0
def qH(n:Int):PS tb 173 [.int .i64 n] (.agg [.int .i64 1,.int .i64 n,.str E]):=by
 refine bD (af:=a173) rfl rfl ?_;unfold a173;dsimp only[List.map,aI,ai];exact gN trivial k0;all_goals simp[aS,dep,jD,j1,E]
def rN(b:Bool):PS tb 210 [.bool b] (.agg [.int .i64 3,.int .i64 (if b then 1 else 0),.str E]):=by
 refine bD (af:=a210) rfl rfl ?_;unfold a210;dsimp only[List.map,aI,ai];cases b<;>(repeat'(first|(simp(disch:=omega) only[go_sem,seval,reduceCtorEq])|with_reducible exact Ev.mk|((first|apply aY|apply aQ)<;>intro a c<;>(simp(disch:=omega) only[go_sem,seval,reduceCtorEq,a])<;>clear a));all_goals simp[aS,dep,jD,iw,E])
def um(s:ByteArray)(h:bn H nx):CS tb 211 [.p (.str s)] H nx (gI (oc s) H nx):=by
 by_cases c:64<s.size
 .have a:(64:Int)<s.size:=ae;simp only[oc,aq c,gI];refine hZ (af:=KX) rfl rfl ?_;unfold KX;dsimp only[ai];exact gD (fW h.ba h.al h.no a) trivial trivial (@bn.d1 _ _ _ h λk=>gL 1006 k) k0
 .have a:¬(64:Int)<s.size:=ae;simp only[oc,ak c,gI];refine hZ (af:=KX) rfl rfl ?_;unfold KX;dsimp only[ai];exact gN (fW h.ba h.al h.no a) k0;all_goals simp[gJ]
end
end
section
open Go Go.Dv
abbrev iK(x:Int×Int):PV:=.tuple [.int .i64 x.1,.int .i64 x.2]
def zq(a:Int):PS tb 209 [.int .i64 a] (iK (tt a)):=by
 refine bD (af:=SD) rfl rfl ?_;unfold SD;dsimp only[List.map,aI,ai];by_cases c:a=-9223372036854775808
 .subst c;refine gN trivial (k1 ?_);simp[aS,dep,iK,tt]
 .refine gN c (k1 ?_);simp[aS,dep,iK,tt,c]
def Of(a b:Int):PS tb 234 [.int .i64 a,.int .i64 b] (iK (rS a b)):=by
 refine bD (af:=a234) rfl rfl ?_;unfold a234;dsimp only[List.map,aI,ai];rcases Int.lt_trichotomy b 0 with c|c|c
 .have e:¬0<b:=ae;by_cases d:a<qG (a+b)
  .refine gN (dS c e d) (k1 ?_);simp[aS,dep,iK,rS,c,e,d]
  .refine gN (dS c e d) (k1 ?_);simp[aS,dep,iK,rS,c,e,d]
 .subst c;refine gN trivial (k1 ?_);simp[aS,dep,iK,rS]
 .have e:¬b<0:=ae;by_cases d:qG (a+b)<a
  .refine gN (dS c e d) (k1 ?_);simp[aS,dep,iK,rS,c,e,d]
  .refine gN (dS c e d) (k1 ?_);simp[aS,dep,iK,rS,c,e,d]
def Ov(a b:Int):PS tb 186 [.int .i64 a,.int .i64 b] (iK (rJ a b)):=by
 refine bD (af:=SE) rfl rfl ?_;unfold SE;dsimp only[List.map,aI,ai];rcases Int.lt_trichotomy b 0 with c|c|c
 .have e:¬0<b:=ae;by_cases d:qG (a-b)<a
  .refine gN (dS c e d) (k1 ?_);simp[aS,dep,iK,rJ,c,e,d]
  .refine gN (dS c e d) (k1 ?_);simp[aS,dep,iK,rJ,c,e,d]
 .subst c;refine gN trivial (k1 ?_);simp[aS,dep,iK,rJ]
 .have e:¬b<0:=ae;by_cases d:a<qG (a-b)
  .refine gN (dS c e d) (k1 ?_);simp[aS,dep,iK,rJ,c,e,d]
  .refine gN (dS c e d) (k1 ?_);simp[aS,dep,iK,rJ,c,e,d]
def O4(a b:Int):PS tb 235 [.int .i64 a,.int .i64 b] (iK (qU a b)):=by
 refine bD (af:=VE) rfl rfl ?_;unfold VE;dsimp only[List.map,aI,ai];by_cases c:a=0
 .subst c;refine gN trivial (k1 ?_);simp[aS,dep,iK,qU]
 by_cases d:b=0
 .subst d;refine gN c (k1 ?_);simp[aS,dep,iK,qU]
 by_cases e:a=-1
 .subst e;refine gP (bA c d) (zq b) (k1 ?_);simp[aS,dep,iK,qU,c,d]
 by_cases f:b=-1
 .subst f;refine gP (dS c d e) (zq a) (k1 ?_);simp[aS,dep,iK,qU,c,d,e]
 by_cases g:qG ((qG (a*b)).tdiv b)=a
 .refine gN (dP c d e f g) (k1 ?_);simp[aS,dep,iK,qU,c,d,e,f,g]
 .refine gN (dP c d e f g) (k1 ?_);simp[aS,dep,iK,qU,c,d,e,f,g]
def O2(a b:Int):PS tb 236 [.int .i64 a,.int .i64 b] (iK (tF a b)):=by
 refine bD (af:=a236) rfl rfl ?_;unfold a236;dsimp only[List.map,aI,ai];by_cases c:b=0
 .subst c;refine gN trivial (k1 ?_);simp[aS,dep,iK,tF]
 by_cases d:b=-1
 .subst d;refine gP c (zq a) (k1 ?_);simp[aS,dep,iK,tF,c]
 by_cases e:a.tmod b=0
 .refine gN (dS c d e) (k1 ?_);simp[aS,dep,iK,tF,c,d,e]
 by_cases f:a<0<;>by_cases g:b<0<;>
 .refine gN (dP c d e f g) (k1 ?_);simp[aS,dep,iK,tF,W0,c,d,e,f,g]
def O6(a b:Int):PS tb 237 [.int .i64 a,.int .i64 b] (iK (tu a b)):=by
 refine bD (af:=RW) rfl rfl ?_;unfold RW;dsimp only[List.map,aI,ai];by_cases c:b=0
 .subst c;refine gN trivial (k1 ?_);simp[aS,dep,iK,tu]
 by_cases d:b=-1
 .subst d;refine gN c (k1 ?_);simp[aS,dep,iK,tu,c]
 by_cases e:a.tmod b=0
 .refine gN (dS c d e) (k1 ?_);simp[aS,dep,iK,tu,c,d,e]
 by_cases f:a.tmod b<0<;>by_cases g:b<0<;>
 .refine gN (dP c d e f g) (k1 ?_);simp[aS,dep,iK,tu,W0,c,d,e,f,g]
def Sk(a:Int)(h:fA a):PS tb 232 [.int .i64 a,.int .i64 10] (.str (wS a)):=by
 refine⟨0,?_⟩;have b:tb.A 232=none:=rfl;have c:tb.X=outside:=rfl;simp only[dQ,b,c];simp[outside,aK.or,oz,oK,FR,tZ,si,EA,nP,h.1,h.2]
def CU(a:Int)(h:fA a):PS tb 212 [.int .i64 a] (.str (wS a)):=by
 refine bD (af:=a212) rfl rfl ?_;unfold a212;dsimp only[List.map,aI,ai];exact gP trivial (Sk a h) k0
end
section
open Go Go.Dv
def H9(a:Int):PS tb 183 [.int .i64 a] (.bool false):=by
 refine bD (af:=a183) rfl rfl ?_;unfold a183;dsimp only[List.map,aI,ai];exact gN trivial k0
def zV(a:Int):PS tb 270 [.int .i64 a] (.bool false):=by
 refine bD (af:=Uc) rfl rfl ?_;unfold Uc;dsimp only[List.map,aI,ai];exact gN trivial k0
def Tt(a b:Int):PS tb 250 [.int .i64 a,.int .i64 b] (.int .i64 (tm a b)):=by
 refine bD (af:=Vv) rfl rfl ?_;unfold Vv;dsimp only[List.map,aI,ai];by_cases c:a<b
 .refine gP c (λ{e}=>H9 e) (k1 ?_);all_goals simp[aS,dep,tm,c]
 .by_cases d:b<a
  .refine gP (bA c d) (λ{e}=>H9 e) (k1 ?_);all_goals simp[aS,dep,tm,c,d]
  .refine gP (bA c d) (λ{e}=>H9 e) (k1 ?_);all_goals simp[aS,dep,tm,c,d]
def MB(a b:Int):PS tb 262 [.int .i64 a,.int .i64 b] (.int .i64 (tm a b)):=by
 refine bD (af:=Vn) rfl rfl ?_;unfold Vn;dsimp only[List.map,aI,ai];by_cases c:a<b
 .refine gP c (λ{e}=>zV e) (k1 ?_);all_goals simp[aS,dep,tm,c]
 .by_cases d:b<a
  .refine gP (bA c d) (λ{e}=>zV e) (k1 ?_);all_goals simp[aS,dep,tm,c,d]
  .refine gP (bA c d) (λ{e}=>zV e) (k1 ?_);all_goals simp[aS,dep,tm,c,d]
def IT(a b:ByteArray):PS tb 98 [.str a,.str b] (.int .i64 (qb a b)):=by
 refine⟨0,?_⟩;have c:tb.A 98=none:=rfl;have d:tb.X=outside:=rfl;simp only[dQ,c,d];simp[outside,aK.or,oz,oK,FR,nP,tZ,si,EA]
def KG(a b:dY):PS tb 251 [.agg (jD a++jD b)] (.int .i64 (tm a.n b.n)):=by
 refine bD (af:=Uz) rfl rfl ?_;unfold Uz;dsimp only[List.map,aI,ai,jD,List.cons_append,List.nil_append];exact gP trivial (λ{c d}=>MB c d) k0
def IW(a b:dY):PS tb 252 [.agg (jD a++jD b)] (.int .i64 (qb a.s b.s)):=by
 refine bD (af:=RT) rfl rfl ?_;unfold RT;dsimp only[List.map,aI,ai,jD,List.cons_append,List.nil_append];exact gP trivial (λ{c d}=>IT c d) k0
def SV(k n:Int)(s:ByteArray)(b a:Int)(c:ByteArray):PS tb 251 [.agg [.int .i64 k,.int .i64 n,.str s,.int .i64 b,.int .i64 a,.str c]] (.int .i64 (tm n a)):=KG ⟨k,n,s⟩ ⟨b,a,c⟩
def RO(k n:Int)(s:ByteArray)(b c:Int)(a:ByteArray):PS tb 252 [.agg [.int .i64 k,.int .i64 n,.str s,.int .i64 b,.int .i64 c,.str a]] (.int .i64 (qb s a)):=IW ⟨k,n,s⟩ ⟨b,c,a⟩
def Iq(a b:dY):PS tb 238 [.agg (jD a),.agg (jD b)] (.int .i64 (Df a b)):=by
 refine bD (af:=VA) rfl rfl ?_;unfold VA;dsimp only[List.map,aI,ai,jD];by_cases c:a.k=b.k
 .by_cases d:a.n=b.n
  .refine gP (bA c d) (λ{e f g h i j}=>RO e f g h i j) (k1 ?_);all_goals simp[aS,dep,Df,c,d]
  .refine gP (bA c d) (λ{e f g h i j}=>SV e f g h i j) (k1 ?_);all_goals simp[aS,dep,Df,c,d]
 .refine gP c (λ{e f}=>Tt e f) (k1 ?_);all_goals simp[aS,dep,Df,c]
section
variable{H:Heap}{nx:Nat}
def jm(x:Int×Int)(h:bn H nx):CS tb 208 [.p (.int .i64 x.1),.p (.int .i64 x.2)] H nx (gI (iB x) H nx):=by
 by_cases c:x.2=0
 .simp only[iB,aq c,gI];refine hZ (af:=a208) rfl rfl ?_;unfold a208;dsimp only[ai];refine gP (fW h.ba h.al h.no c) (λ{a}=>qH a) (k1 ?_);all_goals simp[gJ,j1,jD]
 .by_cases d:x.2=4
  .simp only[iB,ak c,aq d,gI];refine hZ (af:=a208) rfl rfl ?_;unfold a208;dsimp only[ai];exact gD (dP h.ba h.al h.no c d) trivial trivial (@bn.d1 _ _ _ h λk=>gL 1002 k) k0
  .simp only[iB,ak c,ak d,gI];refine hZ (af:=a208) rfl rfl ?_;unfold a208;dsimp only[ai];exact gD (dP h.ba h.al h.no c d) trivial trivial (@bn.d1 _ _ _ h λk=>gL 1001 k) k0
end
end
section
open Go Go.Dv
section
variable{H:Heap}{nx:Nat}
def jN{f:FuncId}{l:List DV}{x:An}{v:dY}(h:CS tb f l H nx (gI x H nx))(e:x=.ok v):CS tb f l H nx (.inl (.agg [.p (.int .i64 v.k),.p (.int .i64 v.n),.p (.str v.s)],H,nx)):=by subst e;exact h
def kh{f:FuncId}{l:List DV}{x:An}{c:Int}(h:CS tb f l H nx (gI x H nx))(e:x=.error c):CS tb f l H nx (.inr (te 2 c E,H)):=by subst e;exact h
def wa{P q:Prop}(k:q)(h:Bx q->P:=by
 intro k;refine hZ (af:=VN) rfl rfl ?_;unfold VN;dsimp only[ai,gJ];exact k.q):P:=h ⟨k⟩
def kA(f a b:Int)(h:bn H nx):CS tb 214 [.p (.int .i64 f),.p (.int .i64 a),.p (.int .i64 b)] H nx (gI (fQ f a b) H nx):=by
 by_cases g:f=4
 .subst g;have e:fQ 4 a b=iB (rS a b):=by simp[fQ]
  rw[e];rcases d:iB (rS a b)with c|v
  .simp only[gI];refine wa ?_;exact gD (dS h.ba h.al h.no) (Of a b) trivial (@bn.d1 _ _ _ h λk=>kh (jm (rS a b) k) d) k0
  .simp only[gI];refine wa ?_;exact gR (dS h.ba h.al h.no) (Of a b) (@bn.d1 _ _ _ h λk=>jN (jm (rS a b) k) d) k0
 by_cases i:f=5
 .subst i;have e:fQ 5 a b=iB (rJ a b):=by simp[fQ]
  rw[e];rcases d:iB (rJ a b)with c|v
  .simp only[gI];refine wa ?_;exact gD (dS h.ba h.al h.no) (Ov a b) trivial (@bn.d1 _ _ _ h λk=>kh (jm (rJ a b) k) d) k0
  .simp only[gI];refine wa ?_;exact gR (dS h.ba h.al h.no) (Ov a b) (@bn.d1 _ _ _ h λk=>jN (jm (rJ a b) k) d) k0
 by_cases j:f=6
 .subst j;have e:fQ 6 a b=iB (qU a b):=by simp[fQ]
  rw[e];rcases d:iB (qU a b)with c|v
  .simp only[gI];refine wa ?_;exact gD (dS h.ba h.al h.no) (O4 a b) trivial (@bn.d1 _ _ _ h λk=>kh (jm (qU a b) k) d) k0
  .simp only[gI];refine wa ?_;exact gR (dS h.ba h.al h.no) (O4 a b) (@bn.d1 _ _ _ h λk=>jN (jm (qU a b) k) d) k0
 by_cases l:f=7
 .subst l;have e:fQ 7 a b=iB (tF a b):=by simp[fQ]
  rw[e];rcases d:iB (tF a b)with c|v
  .simp only[gI];refine wa ?_;exact gD (dS h.ba h.al h.no) (O2 a b) trivial (@bn.d1 _ _ _ h λk=>kh (jm (tF a b) k) d) k0
  .simp only[gI];refine wa ?_;exact gR (dS h.ba h.al h.no) (O2 a b) (@bn.d1 _ _ _ h λk=>jN (jm (tF a b) k) d) k0
 have e:fQ f a b=iB (tu a b):=by simp[fQ,g,i,j,l]
 rw[e];rcases d:iB (tu a b)with c|v
 .simp only[gI];refine wa ?_;exact gD (qF h.ba h.al h.no g i j l) (O6 a b) trivial (@bn.d1 _ _ _ h λk=>kh (jm (tu a b) k) d) k0
 .simp only[gI];refine wa ?_;exact gR (qF h.ba h.al h.no g i j l) (O6 a b) (@bn.d1 _ _ _ h λk=>jN (jm (tu a b) k) d) k0
def nN{P q:Prop}(k:q)(h:Bx q->P:=by
 intro k;refine hZ (af:=SS) rfl rfl ?_;unfold SS;dsimp only[ai,gJ];exact k.q):P:=h ⟨k⟩
def BD(f:Int)(a b:dY)(h:bn H nx):CS tb 215 [.p (.int .i64 f),gJ a,gJ b] H nx (gI (ta f a b) H nx):=by
 by_cases r:a.k=b.k/\(a.k=1\/a.k=2\/(a.k=3/\f<=11))
 .have e:ta f a b=.ok (iw (mO f (Df a b))):=by unfold ta;exact aq r
  rw[e];simp only[gI];have n:=Iq a b;simp only[jD]at n;generalize C:Df a b=x at n;obtain⟨q,s⟩:=r;have c:∀t,t=mO f x->PS tb 210 [.bool t] (.agg [.int .i64 3,.int .i64 (iw (mO f x)).n,.str E]):=λt z=>by subst z;exact rN _
  have A:∀(k:Int),a.k=k->b.k=k->(k=1\/k=2\/(k=3/\f<=11))->CS tb 215 [.p (.int .i64 f),gJ a,gJ b] H nx (.inl (gJ (iw (mO f x)),H,nx)):=by
   intro k o p s;rw[o,p]at n;rcases s with rfl|rfl|⟨rfl,u⟩
   .by_cases g:f=10
    .subst g;have d:=c (decide (x=0)) (by simp[mO]);refine nN ?_;refine gR (dP h.ba h.al h.no o p) (bA n d) (@bn.d3 _ _ _ h λk=>aM k) (k1 ?_);all_goals simp[iw,gJ,E]
    by_cases i:f=11
    .subst i;have d:=c (!decide (x=0)) (by simp[mO]);refine nN ?_;refine gR (dP h.ba h.al h.no o p) (bA n d) (@bn.d3 _ _ _ h λk=>aM k) (k1 ?_);all_goals simp[iw,gJ,E]
    by_cases j:f=12
    .subst j;have d:=c (decide (x<0)) (by simp[mO]);refine nN ?_;refine gR (dP h.ba h.al h.no o p) (bA n d) (@bn.d3 _ _ _ h λk=>aM k) (k1 ?_);all_goals simp[iw,gJ,E]
    by_cases l:f=13
    .subst l;have d:=c (decide (x<=0)) (by simp[mO]);refine nN ?_;refine gR (dP h.ba h.al h.no o p) (bA n d) (@bn.d3 _ _ _ h λk=>aM k) (k1 ?_);all_goals simp[iw,gJ,E]
    by_cases m:f=14
    .subst m;have d:=c (decide (0<x)) (by simp[mO]);refine nN ?_;refine gR (dP h.ba h.al h.no o p) (bA n d) (@bn.d3 _ _ _ h λk=>aM k) (k1 ?_);all_goals simp[iw,gJ,E]
    have d:=c (decide (0<=x)) (by simp[mO,g,i,j,l,m]);refine nN ?_;refine gR (o9 h.ba h.al h.no o p g i j l m) (bA n d) (@bn.d3 _ _ _ h λk=>aM k) (k1 ?_);all_goals simp[iw,gJ,E]
   .by_cases g:f=10
    .subst g;have d:=c (decide (x=0)) (by simp[mO]);refine nN ?_;refine gR (dP h.ba h.al h.no o p) (bA n d) (@bn.d3 _ _ _ h λk=>aM k) (k1 ?_);all_goals simp[iw,gJ,E]
    by_cases i:f=11
    .subst i;have d:=c (!decide (x=0)) (by simp[mO]);refine nN ?_;refine gR (dP h.ba h.al h.no o p) (bA n d) (@bn.d3 _ _ _ h λk=>aM k) (k1 ?_);all_goals simp[iw,gJ,E]
    by_cases j:f=12
    .subst j;have d:=c (decide (x<0)) (by simp[mO]);refine nN ?_;refine gR (dP h.ba h.al h.no o p) (bA n d) (@bn.d3 _ _ _ h λk=>aM k) (k1 ?_);all_goals simp[iw,gJ,E]
    by_cases l:f=13
    .subst l;have d:=c (decide (x<=0)) (by simp[mO]);refine nN ?_;refine gR (dP h.ba h.al h.no o p) (bA n d) (@bn.d3 _ _ _ h λk=>aM k) (k1 ?_);all_goals simp[iw,gJ,E]
    by_cases m:f=14
    .subst m;have d:=c (decide (0<x)) (by simp[mO]);refine nN ?_;refine gR (dP h.ba h.al h.no o p) (bA n d) (@bn.d3 _ _ _ h λk=>aM k) (k1 ?_);all_goals simp[iw,gJ,E]
    have d:=c (decide (0<=x)) (by simp[mO,g,i,j,l,m]);refine nN ?_;refine gR (o9 h.ba h.al h.no o p g i j l m) (bA n d) (@bn.d3 _ _ _ h λk=>aM k) (k1 ?_);all_goals simp[iw,gJ,E]
   .by_cases g:f=10
    .subst g;have d:=c (decide (x=0)) (by simp[mO]);refine nN ?_;refine gR (dP h.ba h.al h.no o p) (bA n d) (@bn.d3 _ _ _ h λk=>aM k) (k1 ?_);all_goals simp[iw,gJ,E]
    by_cases i:f=11
    .subst i;have d:=c (!decide (x=0)) (by simp[mO]);refine nN ?_;refine gR (dP h.ba h.al h.no o p) (bA n d) (@bn.d3 _ _ _ h λk=>aM k) (k1 ?_);all_goals simp[iw,gJ,E]
    have j:¬f=12:=ae;have l:¬f=13:=ae;have m:¬f=14:=ae;have d:=c (decide (0<=x)) (by simp[mO,g,i,j,l,m]);refine nN ?_;refine gR (rL h.ba h.al h.no o p g i j l m u) (bA n d) (@bn.d3 _ _ _ h λk=>aM k) (k1 ?_);all_goals simp[iw,gJ,E]
  exact A a.k rfl q.symm s
 .have e:ta f a b=.error 1009:=by unfold ta;exact ak r
  rw[e];simp only[gI];by_cases q:a.k=b.k
  .have w:¬b.k=1:=λe=>r ⟨q,.inl (q.trans e)⟩
   have y:¬b.k=2:=λe=>r ⟨q,.inr (.inl (q.trans e))⟩
   by_cases v:b.k=3
   .have B:¬f<=11:=λe=>r ⟨q,.inr (.inr ⟨q.trans v,e⟩)⟩
    refine nN ?_;exact gD (xI h.ba h.al h.no q w y v B) trivial trivial (@bn.d3 _ _ _ h λk=>cq k) k0
   .skip
    refine nN ?_;exact gD (qF h.ba h.al h.no q w y v) trivial trivial (@bn.d3 _ _ _ h λk=>cq k) k0
  .skip
   refine nN ?_;exact gD (fW h.ba h.al h.no q) trivial trivial (@bn.d3 _ _ _ h λk=>cq k) k0
end
end
section
open Go Go.Dv
def NW{a b:ByteArray}(c:a.size<=1048576)(d:b.size<=1048576):fK .add a b=some (.str (a++b)):=by
 have:fK .add a b=if a.size+b.size<=140737488355328 then some (.str (a++b))else none:=rfl
 rw[this,aq ae]
section
variable{H:Heap}{nx:Nat}
def iN{P q:Prop}(k:q)(h:Bx q->P:=by
 intro k;refine hZ (af:=a175) rfl rfl ?_;unfold a175;dsimp only[ai,gJ];exact k.q):P:=h ⟨k⟩
def DU(j:Int)(a b:dY)(u:a.s.size<=1048576)(w:b.s.size<=1048576)(h:bn H nx):CS tb 175 [.p (.int .i64 j),gJ a,gJ b] H nx (gI (dM j a b) H nx):=by
 by_cases o:j=4
 .subst o;by_cases g:a.k=1/\b.k=1
  .obtain⟨d,f⟩:=g;have i:dM 4 a b=fQ 4 a.n b.n:=by simp[dM,d,f]
   rw[i];rcases e:fQ 4 a.n b.n with c|v
   .simp only[gI];refine iN ?_;exact gD (dP h.ba h.al h.no d f) trivial (@bn.d3 _ _ _ h λk=>aM k) (@bn.d3 _ _ _ h λk=>kh (kA 4 a.n b.n k) e) k0
   .simp only[gI];refine iN ?_;exact gR (dP h.ba h.al h.no d f) trivial (bA (@bn.d3 _ _ _ h λk=>aM k) (@bn.d3 _ _ _ h λk=>jN (kA 4 a.n b.n k) e)) k0
  .skip
   by_cases d:a.k=1
   .have f:¬b.k=1:=λe=>g ⟨d,e⟩
    have em:dM 4 a b=.error 1009:=by simp[dM,d,f]
    rw[em];simp only[gI];refine iN ?_;exact gD (dP h.ba h.al h.no d f) trivial trivial (@bn.d3 _ _ _ h λk=>cq k) k0
   .skip
    have em:dM 4 a b=.error 1009:=by simp[dM,d]
    rw[em];simp only[gI];refine iN ?_;exact gD (fW h.ba h.al h.no d) trivial trivial (@bn.d3 _ _ _ h λk=>cq k) k0
 by_cases p:j=5
 .subst p;by_cases g:a.k=1/\b.k=1
  .obtain⟨d,f⟩:=g;have i:dM 5 a b=fQ 5 a.n b.n:=by simp[dM,d,f]
   rw[i];rcases e:fQ 5 a.n b.n with c|v
   .simp only[gI];refine iN ?_;exact gD (dP h.ba h.al h.no d f) trivial (@bn.d3 _ _ _ h λk=>aM k) (@bn.d3 _ _ _ h λk=>kh (kA 5 a.n b.n k) e) k0
   .simp only[gI];refine iN ?_;exact gR (dP h.ba h.al h.no d f) trivial (bA (@bn.d3 _ _ _ h λk=>aM k) (@bn.d3 _ _ _ h λk=>jN (kA 5 a.n b.n k) e)) k0
  .skip
   by_cases d:a.k=1
   .have f:¬b.k=1:=λe=>g ⟨d,e⟩
    have em:dM 5 a b=.error 1009:=by simp[dM,d,f]
    rw[em];simp only[gI];refine iN ?_;exact gD (dP h.ba h.al h.no d f) trivial trivial (@bn.d3 _ _ _ h λk=>cq k) k0
   .skip
    have em:dM 5 a b=.error 1009:=by simp[dM,d]
    rw[em];simp only[gI];refine iN ?_;exact gD (fW h.ba h.al h.no d) trivial trivial (@bn.d3 _ _ _ h λk=>cq k) k0
 by_cases q:j=6
 .subst q;by_cases g:a.k=1/\b.k=1
  .obtain⟨d,f⟩:=g;have i:dM 6 a b=fQ 6 a.n b.n:=by simp[dM,d,f]
   rw[i];rcases e:fQ 6 a.n b.n with c|v
   .simp only[gI];refine iN ?_;exact gD (dP h.ba h.al h.no d f) trivial (@bn.d3 _ _ _ h λk=>aM k) (@bn.d3 _ _ _ h λk=>kh (kA 6 a.n b.n k) e) k0
   .simp only[gI];refine iN ?_;exact gR (dP h.ba h.al h.no d f) trivial (bA (@bn.d3 _ _ _ h λk=>aM k) (@bn.d3 _ _ _ h λk=>jN (kA 6 a.n b.n k) e)) k0
  .skip
   by_cases d:a.k=1
   .have f:¬b.k=1:=λe=>g ⟨d,e⟩
    have em:dM 6 a b=.error 1009:=by simp[dM,d,f]
    rw[em];simp only[gI];refine iN ?_;exact gD (dP h.ba h.al h.no d f) trivial trivial (@bn.d3 _ _ _ h λk=>cq k) k0
   .skip
    have em:dM 6 a b=.error 1009:=by simp[dM,d]
    rw[em];simp only[gI];refine iN ?_;exact gD (fW h.ba h.al h.no d) trivial trivial (@bn.d3 _ _ _ h λk=>cq k) k0
 by_cases r:j=7
 .subst r;by_cases g:a.k=1/\b.k=1
  .obtain⟨d,f⟩:=g;have i:dM 7 a b=fQ 7 a.n b.n:=by simp[dM,d,f]
   rw[i];rcases e:fQ 7 a.n b.n with c|v
   .simp only[gI];refine iN ?_;exact gD (dP h.ba h.al h.no d f) trivial (@bn.d3 _ _ _ h λk=>aM k) (@bn.d3 _ _ _ h λk=>kh (kA 7 a.n b.n k) e) k0
   .simp only[gI];refine iN ?_;exact gR (dP h.ba h.al h.no d f) trivial (bA (@bn.d3 _ _ _ h λk=>aM k) (@bn.d3 _ _ _ h λk=>jN (kA 7 a.n b.n k) e)) k0
  .skip
   by_cases d:a.k=1
   .have f:¬b.k=1:=λe=>g ⟨d,e⟩
    have em:dM 7 a b=.error 1009:=by simp[dM,d,f]
    rw[em];simp only[gI];refine iN ?_;exact gD (dP h.ba h.al h.no d f) trivial trivial (@bn.d3 _ _ _ h λk=>cq k) k0
   .skip
    have em:dM 7 a b=.error 1009:=by simp[dM,d]
    rw[em];simp only[gI];refine iN ?_;exact gD (fW h.ba h.al h.no d) trivial trivial (@bn.d3 _ _ _ h λk=>cq k) k0
 by_cases s:j=8
 .subst s;by_cases g:a.k=1/\b.k=1
  .obtain⟨d,f⟩:=g;have i:dM 8 a b=fQ 8 a.n b.n:=by simp[dM,d,f]
   rw[i];rcases e:fQ 8 a.n b.n with c|v
   .simp only[gI];refine iN ?_;exact gD (dP h.ba h.al h.no d f) trivial (@bn.d3 _ _ _ h λk=>aM k) (@bn.d3 _ _ _ h λk=>kh (kA 8 a.n b.n k) e) k0
   .simp only[gI];refine iN ?_;exact gR (dP h.ba h.al h.no d f) trivial (bA (@bn.d3 _ _ _ h λk=>aM k) (@bn.d3 _ _ _ h λk=>jN (kA 8 a.n b.n k) e)) k0
  .skip
   by_cases d:a.k=1
   .have f:¬b.k=1:=λe=>g ⟨d,e⟩
    have em:dM 8 a b=.error 1009:=by simp[dM,d,f]
    rw[em];simp only[gI];refine iN ?_;exact gD (dP h.ba h.al h.no d f) trivial trivial (@bn.d3 _ _ _ h λk=>cq k) k0
   .skip
    have em:dM 8 a b=.error 1009:=by simp[dM,d]
    rw[em];simp only[gI];refine iN ?_;exact gD (fW h.ba h.al h.no d) trivial trivial (@bn.d3 _ _ _ h λk=>cq k) k0
 by_cases l:j=16
 .subst l;by_cases g:a.k=3/\b.k=3
  .obtain⟨d,f⟩:=g;have i:dM 16 a b=.ok (iw (decide (a.n=1)&&decide (b.n=1))):=by simp[dM,d,f]
   rw[i];simp only[gI];by_cases x:a.n=1<;>by_cases y:b.n=1<;>
   .skip
    refine iN ?_;refine gR (qF h.ba h.al h.no d f x y) (λ{t}=>rN t) (@bn.d3 _ _ _ h λk=>aM k) (k1 ?_);all_goals simp[iw,x,y]
  .skip
   by_cases d:a.k=3
   .have f:¬b.k=3:=λe=>g ⟨d,e⟩
    have em:dM 16 a b=.error 1009:=by simp[dM,d,f]
    rw[em];simp only[gI];refine iN ?_;exact gD (dP h.ba h.al h.no d f) trivial trivial (@bn.d3 _ _ _ h λk=>cq k) k0
   .skip
    have em:dM 16 a b=.error 1009:=by simp[dM,d]
    rw[em];simp only[gI];refine iN ?_;exact gD (fW h.ba h.al h.no d) trivial trivial (@bn.d3 _ _ _ h λk=>cq k) k0
 by_cases m:j=17
 .subst m;by_cases g:a.k=3/\b.k=3
  .obtain⟨d,f⟩:=g;have i:dM 17 a b=.ok (iw (decide (a.n=1)||decide (b.n=1))):=by simp[dM,d,f]
   rw[i];simp only[gI];by_cases x:a.n=1<;>by_cases y:b.n=1<;>
   .skip
    refine iN ?_;refine gR (qF h.ba h.al h.no d f x y) (λ{t}=>rN t) (@bn.d3 _ _ _ h λk=>aM k) (k1 ?_);all_goals simp[iw,x,y]
  .skip
   by_cases d:a.k=3
   .have f:¬b.k=3:=λe=>g ⟨d,e⟩
    have em:dM 17 a b=.error 1009:=by simp[dM,d,f]
    rw[em];simp only[gI];refine iN ?_;exact gD (dP h.ba h.al h.no d f) trivial trivial (@bn.d3 _ _ _ h λk=>cq k) k0
   .skip
    have em:dM 17 a b=.error 1009:=by simp[dM,d]
    rw[em];simp only[gI];refine iN ?_;exact gD (fW h.ba h.al h.no d) trivial trivial (@bn.d3 _ _ _ h λk=>cq k) k0
 by_cases n:j=19
 .subst n;by_cases g:a.k=2/\b.k=2
  .obtain⟨d,f⟩:=g;have i:dM 19 a b=oc (a.s++b.s):=by simp[dM,d,f]
   rw[i];rcases e:oc (a.s++b.s)with c|v
   .simp only[gI];refine iN ?_;exact gD (vE h.ba h.al h.no d f (NW u w)) trivial (@bn.d3 _ _ _ h λk=>aM k) (@bn.d3 _ _ _ h λk=>kh (um (a.s++b.s) k) e) k0
   .simp only[gI];refine iN ?_;exact gR (vE h.ba h.al h.no d f (NW u w)) trivial (bA (@bn.d3 _ _ _ h λk=>aM k) (@bn.d3 _ _ _ h λk=>jN (um (a.s++b.s) k) e)) k0
  .skip
   by_cases d:a.k=2
   .have f:¬b.k=2:=λe=>g ⟨d,e⟩
    have em:dM 19 a b=.error 1009:=by simp[dM,d,f]
    rw[em];simp only[gI];refine iN ?_;exact gD (dP h.ba h.al h.no d f) trivial trivial (@bn.d3 _ _ _ h λk=>cq k) k0
   .skip
    have em:dM 19 a b=.error 1009:=by simp[dM,d]
    rw[em];simp only[gI];refine iN ?_;exact gD (fW h.ba h.al h.no d) trivial trivial (@bn.d3 _ _ _ h λk=>cq k) k0
 have i:dM j a b=ta j a b:=by simp[dM,o,p,q,r,s,l,m,n]
 rw[i];rcases e:ta j a b with c|v
 .simp only[gI];refine iN ?_;exact gD (rL h.ba h.al h.no o p q r s l m n) trivial trivial (@bn.d3 _ _ _ h λk=>kh (BD j a b k) e) k0
 .simp only[gI];refine iN ?_;exact gR (rL h.ba h.al h.no o p q r s l m n) trivial (@bn.d3 _ _ _ h λk=>jN (BD j a b k) e) k0
end
end
section
open Go Go.Dv
def oi(a b:List ByteArray):Bool:=a.any (hasB b)
def pA(f g:Ft):Bool:=!dk f||!dk g||f.all||g.all||oi f.w g.w||oi f.w g.r||oi f.r g.w
end
section
open Go Go.Dv
def G9{T:dw}{f:FuncId}{af:av}(g:T.A f=some af){args:List DV}{H:Heap}{a:Nat}{ι:Type}{r:ι->DV}{H':ι->Heap}{nx':ι->Nat}{p:ι->Prop}(j:args.length=af.nparams)
  (h:W T af.body {env:=ai 0 args,heap:=H,next:=a,marks:=[a]} (eX af.results λv s=>∃i,v=r i/\s.heap=H' i/\s.next=nx' i/\p i))(b:af.rs=false:=by rfl):∃i,BS T f args H a (r i) (H' i) (nx' i)/\p i:=by
 obtain⟨e,w,k,c⟩:=nr _ _ _ h;unfold eX at c;obtain⟨l,v,m,i,rfl,o,q,t⟩:=c;obtain⟨n,u⟩:=k.at;refine⟨i,⟨n+1,?_⟩,t⟩;rw[dQ];simp only[g];have d:=j0 (aK.le.refl (jn T.A T.X n)) (iU n) _ _ _ (u n (Nat.le_refl _));unfold jH oZ;rw[lB d,b];simp only;rw[aq j,d];rcases l with rfl|rfl<;>simp only[m,o,q,Bool.false_eq_true,cK]
def dd(l:List ByteArray):Nat->List ByteArray
 |0=>[]
 |n+1=>dd l n++if n=0\/l.getD n E≠l.getD (n-1) E then[l.getD n E]else[]
end
end Go.Dv.Tryz
