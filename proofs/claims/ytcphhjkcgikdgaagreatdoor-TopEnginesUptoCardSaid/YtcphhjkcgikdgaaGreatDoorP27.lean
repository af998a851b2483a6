/- Lemmas for the law of this claim. -/
import Derived.Test.YtcphhjkcgikdgaaGreatDoorP26
import Derived.Test.YtcphhjkcgikdgaaGreatDoorP25
set_option linter.all false
set_option maxRecDepth 100000
set_option maxHeartbeats 8000000
namespace Go.Dv.Tryz
section
open Go Go.Dv
def gZ{n k:Nat}(h:k<n):(n==k)=false:=fy.2 ae
def iQ{n k:Nat}(h:k<n):(n=k)=False:=by rw[GS];simp;omega
def yX(l:List dY)(v:dY):cy l++[[.int .i64 v.k,.int .i64 v.n,.str v.s]]=cy (l++[v]):=by simp[cy,jD]
def Bh(a b c:PV):bT 3 [[a,b,c]]=true:=rfl
attribute [go_sem] Option.isSome_some Option.isSome_none
section
variable{L T:Heap}{nx:Nat}
def UC(k:Kc)(m:MS)(v:dY)(h:je L T nx)(i:m.out.length<=16):CS tb 141 [.ptr 6 0,gJ v] (L++mb T k m) nx (cM L T k nx CQ (s9 v m)):=by
 have b:=h.ml k;have j:=h.ge;have e:aC (aC (L++mb T k m) 7 (.row false 3 (cy (m.out++[v])))) 6 (.var false (tB k {m with out:=m.out++[v]}))=L++mb T k {m with out:=m.out++[v]}:=by rw[h.s _ 7 ae,h.s _ 6 ae];rfl
 simp only[tB,List.length_append,List.length_cons,List.length_nil,Nat.zero_add]at e;unfold s9;by_cases c:m.out.length=16
 .have d:((m.out.length:Nat):Int)=16:=ae;simp only[aq c,b9,cM];refine hZ (af:=a141) rfl rfl ?_;unfold a141;dsimp only[ai];exact gD (rG (λa=>(b a).ba) (λa=>(b a).al) (λa=>(b a).no) h.g e d @gZ @iQ @b7) trivial trivial (λ{z}=>@bn.d1 _ _ _ (b z) λk=>gL 1007 k) k0
 .have d:¬((m.out.length:Nat):Int)=16:=ae;have f:(m.out.length+1)*32<=an:=by simp only[an];omega
  have g:m.out.length+1<=an:=by simp only[an];omega
  simp only[ak c,cM];refine hZ (af:=a141) rfl rfl ?_;unfold a141;dsimp only[ai];exact gN (K3 (λa=>(b a).ba) (λa=>(b a).al) (λa=>(b a).no) h.g e d f g @gZ @iQ @b7 @yX @Bh @aA) k0
def N0{P q:Prop}(k:q)(h:Bx q->P:=by
 intro k;refine hZ (af:=a139) rfl rfl ?_;unfold a139;dsimp only[ai];exact k.q):P:=h ⟨k⟩
def Ff(k:Kc)(m:MS)(a:ByteArray)(v:dY)(h:je L T nx)(o:eY m.dm)(p:m.dm.length<=1099511627776)(q:k.wr.length<=1048576):CS tb 139 [.ptr 6 0,.p (.str a),gJ v] (L++mb T k m) nx (cM L T k nx CQ (iA k.cz a v m)):=by
 have d:=h.ml k;have r:=h.ge;have g:=fh a;have i:=qA k.wr a k.wb q;cases c:lK a with
 |false=>
  have em:iA k.cz a v m=.no 2 1004 E m:=by simp[iA,c,b9]
  rw[em];simp only[cM];rw[c]at g;refine N0 ?_;exact gD (vE (λb=>(d b).ba) (λb=>(d b).al) (λb=>(d b).no) h.g @gZ @iQ) g trivial (λ{z}=>@bn.d1 _ _ _ (d z) λk=>gL 1004 k) k0
 |true=>
  rw[c]at g;have l:=I3 m.dm a o p ((nx,.var false [.p (.int .i64 v.k),.p (.int .i64 v.n),.p (.str v.s)])::(L++mb T k m)) 9 (nx+1) ae (d m).c1 (by rw[aw,ak ae,h.g _ 9 ae];rfl)
  have e:aC (aC (aC (L++mb T k m) 9 (.row false 1 (aF (ins a m.dm)))) 6 (.var false (tB k {m with dm:=ins a m.dm}))) 5 (.map false (.strs (if(m.own a).isSome then m.on else m.on+1) (nY (pP m.own a v))))=L++mb T k {m with dm:=ins a m.dm,own:=pP m.own a v,on:=if(m.own a).isSome then m.on else m.on+1}:=by rw[h.s _ 9 ae,h.s _ 6 ae,h.s _ 5 ae];rfl
  simp only[tB]at e;have n:(nY m.own a).isSome=(m.own a).isSome:=by simp[nY]
  cases f:k.all with
  |true=>
   have em:iA k.cz a v m=.ok () {m with dm:=ins a m.dm,own:=pP m.own a v,on:=if(m.own a).isSome then m.on else m.on+1}:=by simp[iA,c,Kc.cz,f]
   rw[em];simp only[cM];refine N0 ?_;rw[f]at e;exact gR (rL (λb=>(d b).ba) (λb=>(d b).al) (λb=>(d b).no) h.g @gZ @iQ f e n @pH @aA) (bA g i) l k0
  |false=>
   cases j:hasB k.wr a with
   |false=>
    rw[j]at i;have em:iA k.cz a v m=.no 3 0 a m:=by simp[iA,c,Kc.cz,f,j]
    rw[em];simp only[cM];refine N0 ?_;exact gD (qF (λb=>(d b).ba) (λb=>(d b).al) (λb=>(d b).no) h.g @gZ @iQ f) (bA g i) trivial (λ{z}=>@bn.d1 _ _ _ (d z) λk=>Bz a k) k0
   |true=>
    rw[j]at i;have em:iA k.cz a v m=.ok () {m with dm:=ins a m.dm,own:=pP m.own a v,on:=if(m.own a).isSome then m.on else m.on+1}:=by simp[iA,c,Kc.cz,f,j]
    rw[em];simp only[cM];refine N0 ?_;rw[f]at e;exact gR (rL (λb=>(d b).ba) (λb=>(d b).al) (λb=>(d b).no) h.g @gZ @iQ f e n @pH @aA) (bA g i) l k0
def LA{P q:Prop}(k:q)(h:Bx q->P:=by
 intro k;refine hZ (af:=a213) rfl rfl ?_;unfold a213;dsimp only[ai];exact k.q):P:=h ⟨k⟩
def QD(k:Kc)(m:MS)(a:ByteArray)(h:je L T nx)(r:eY m.reads)(s:m.reads.length<=1099511627776)(t:k.rd.length<=1048576)(p:k.st.length<=1099511627776):CS tb 213 [.ptr 6 0,.p (.str a)] (L++mb T k m) nx (cM L T k nx gJ (iG k.cz a m)):=by
 have d:=h.ml k;have u:=h.ge;have j:=fh a;have n:=qA k.rd a k.rb t;have f:=Wa k.st a k.sb p;simp only[jD]at f;cases c:lK a with
 |false=>
  have em:iG k.cz a m=.no 2 1004 E m:=by simp[iG,c,b9]
  rw[em];simp only[cM];rw[c]at j;refine LA ?_;exact gD (vE (λb=>(d b).ba) (λb=>(d b).al) (λb=>(d b).no) h.g @gZ @iQ) j trivial (λ{z}=>@bn.d1 _ _ _ (d z) λk=>gL 1004 k) k0
 |true=>
  rw[c]at j;cases l:m.own a with
  |some v=>
   have em:iG k.cz a m=.ok v m:=by simp[iG,c,l]
   have g:=CY l;rw[em];simp only[cM];refine LA ?_;exact gP (qF (λb=>(d b).ba) (λb=>(d b).al) (λb=>(d b).no) h.g @gZ @iQ g) j k0
  |none=>
   have g:=FG l;have q:=I3 m.reads a r s ((nx+1,.var false [.p (.int .i64 0),.p (.int .i64 0),.p (.str ⟨#[]⟩)])::(nx,.var false [.p (.int .i64 0),.p (.int .i64 0),.p (.str ⟨#[]⟩)])::(L++mb T k m)) 8 (nx+2) ae (d m).c2 (by rw[aw,ak ae,aw,ak ae,h.g _ 8 ae];rfl)
   have e:aC (aC (L++mb T k m) 8 (.row false 1 (aF (ins a m.reads)))) 6 (.var false (tB k {m with reads:=ins a m.reads}))=L++mb T k {m with reads:=ins a m.reads}:=by rw[h.s _ 8 ae,h.s _ 6 ae];rfl
   simp only[tB]at e;cases i:k.all with
   |true=>
    have em:iG k.cz a m=.ok (cD k.st a) {m with reads:=ins a m.reads}:=by simp[iG,c,l,Kc.cz,i]
    rw[em];simp only[cM];refine LA ?_;rw[i]at e;exact gR (o9 (λb=>(d b).ba) (λb=>(d b).al) (λb=>(d b).no) h.g @gZ @iQ g i e @aA) (dS j n f) q k0
   |false=>
    cases o:hasB k.rd a with
    |false=>
     rw[o]at n;have em:iG k.cz a m=.no 3 0 a m:=by simp[iG,c,l,Kc.cz,i,o]
     rw[em];simp only[cM];refine LA ?_;exact gD (xI (λb=>(d b).ba) (λb=>(d b).al) (λb=>(d b).no) h.g @gZ @iQ g i) (bA j n) trivial (λ{z}=>@bn.d2 _ _ _ (d z) λk=>Bz a k) k0
    |true=>
     rw[o]at n;have em:iG k.cz a m=.ok (cD k.st a) {m with reads:=ins a m.reads}:=by simp[iG,c,l,Kc.cz,i,o]
     rw[em];simp only[cM];refine LA ?_;rw[i]at e;exact gR (o9 (λb=>(d b).ba) (λb=>(d b).al) (λb=>(d b).no) h.g @gZ @iQ g i e @aA) (dS j n f) q k0
end
end
section
open Go Go.Dv
section
variable{L T:Heap}{nx:Nat}
def je.c1{b:bq}(h:je L T nx)(a:b.below (nx+1)=true:=by rfl):je ((nx,b)::L) T (nx+1):=h.cons a
def je.c2{b c:bq}(h:je L T nx)(a:b.below (nx+1)=true:=by rfl)(d:c.below (nx+1+1)=true:=by rfl):je ((nx+1,c)::(nx,b)::L) T (nx+2):=(h.cons a).cons d
def je.c3{b c d:bq}(h:je L T nx)(a:b.below (nx+1)=true:=by rfl)(e:c.below (nx+1+1)=true:=by rfl)(f:d.below (nx+2+1)=true:=by rfl):je ((nx+2,d)::(nx+1,c)::(nx,b)::L) T (nx+3):=((h.cons a).cons e).cons f
def mJ{P q:Prop}(k:q)(h:Bx q->P:=by
 intro k;refine hZ (af:=SJ) rfl rfl ?_;unfold SJ;dsimp only[ai,gJ];exact k.q):P:=h ⟨k⟩
def Pg(k:Kc)(m:MS)(l:Int)(a:dY)(h:je L T nx)(H:fA a.n)(J:eY m.reads)(K:m.reads.length<=1099511627776)(C:k.rd.length<=1048576)(D:k.st.length<=1099511627776):
  CS tb 174 [.ptr 6 0,.p (.int .i64 l),gJ a] (L++mb T k m) nx (cM L T k nx gJ (lA k.cz l a m)):=by
 obtain⟨x,rfl⟩:=h.ex;have d:=h.lf k;have b:=h.ml k;by_cases u:l=9
 .subst u;by_cases c:a.k=1
  .rcases q:iB (tt a.n)with e|v
   .skip
    have em:lA k.cz 9 a m=.no 2 e E m:=by simp[lA,c,q,lM,b9]
    rw[em];simp only[cM];refine mJ ?_;exact gD (bA d.q c) (zq a.n) (λ{z}=>@bn.d2 _ _ _ (b z) λk=>aM k) (λ{z}=>@bn.d2 _ _ _ (b z) λk=>kh (jm (tt a.n) k) q) k0
   .skip
    have em:lA k.cz 9 a m=.ok v m:=by simp[lA,c,q,lM]
    rw[em];simp only[cM];refine mJ ?_;exact gR (bA d.q c) (zq a.n) (bA (λ{z}=>@bn.d2 _ _ _ (b z) λk=>aM k) (λ{z}=>@bn.d2 _ _ _ (b z) λk=>jN (jm (tt a.n) k) q)) k0
  .skip
   have em:lA k.cz 9 a m=.no 2 1009 E m:=by simp[lA,c,b9]
   rw[em];simp only[cM];refine mJ ?_;exact gD (bA d.q c) trivial trivial (λ{z}=>@bn.d2 _ _ _ (b z) λk=>cq k) k0
 by_cases f:l=18
 .subst f;by_cases c:a.k=3
  .skip
   have em:lA k.cz 18 a m=.ok (iw (decide (a.n=0))) m:=by simp[lA,c]
   rw[em];simp only[cM];refine mJ ?_;refine gR (bA d.q c) (λ{w}=>rN w) (λ{z}=>@bn.d2 _ _ _ (b z) λk=>aM k) (k1 ?_);all_goals simp[iw]
  .skip
   have em:lA k.cz 18 a m=.no 2 1009 E m:=by simp[lA,c,b9]
   rw[em];simp only[cM];refine mJ ?_;exact gD (bA d.q c) trivial trivial (λ{z}=>@bn.d2 _ _ _ (b z) λk=>cq k) k0
 by_cases g:l=20
 .subst g;by_cases c:a.k=1
  .rcases q:oc (wS a.n)with e|v
   .skip
    have em:lA k.cz 20 a m=.no 2 e E m:=by simp[lA,c,q,lM,b9]
    rw[em];simp only[cM];refine mJ ?_;exact gD (bA d.q c) (CU a.n H) (λ{z}=>@bn.d2 _ _ _ (b z) λk=>aM k) (λ{z}=>@bn.d2 _ _ _ (b z) λk=>kh (um (wS a.n) k) q) k0
   .skip
    have em:lA k.cz 20 a m=.ok v m:=by simp[lA,c,q,lM]
    rw[em];simp only[cM];refine mJ ?_;exact gR (bA d.q c) (CU a.n H) (bA (λ{z}=>@bn.d2 _ _ _ (b z) λk=>aM k) (λ{z}=>@bn.d2 _ _ _ (b z) λk=>jN (um (wS a.n) k) q)) k0
  .skip
   have em:lA k.cz 20 a m=.no 2 1009 E m:=by simp[lA,c,b9]
   rw[em];simp only[cM];refine mJ ?_;exact gD (bA d.q c) trivial trivial (λ{z}=>@bn.d2 _ _ _ (b z) λk=>cq k) k0
 by_cases i:l=21
 .subst i;by_cases c:a.k=2
  .skip
   have em:lA k.cz 21 a m=.ok (j1 a.s.size) m:=by simp[lA,c]
   rw[em];simp only[cM];refine mJ ?_;refine gR (bA d.q c) (λ{w}=>qH w) (λ{z}=>@bn.d2 _ _ _ (b z) λk=>aM k) (k1 ?_);all_goals simp[j1]
  .skip
   have em:lA k.cz 21 a m=.no 2 1009 E m:=by simp[lA,c,b9]
   rw[em];simp only[cM];refine mJ ?_;exact gD (bA d.q c) trivial trivial (λ{z}=>@bn.d2 _ _ _ (b z) λk=>cq k) k0
 by_cases c:a.k=2
 .have p:=QD (L:=(x+12,.var false [.p (.int .i64 0),.p (.int .i64 0),.p (.str ⟨#[]⟩)])::(x+11,.var false [.p (.int .i64 a.k),.p (.int .i64 a.n),.p (.str a.s)])::L) k m a.s h.c2 J K C D;rw[c]at p;rcases o:iG k.cz a.s m with⟨v,F⟩|⟨M,e,G,F⟩
  .have t:∀r:An,mR l v=r->lA k.cz l a m=lM r F:=λr C=>by subst C;simp[lA,u,f,g,i,c,o,Rs.bind]
   by_cases y:l=24
   .subst y;have j:mR 24 v=.ok (iw (!decide (v.k=0))):=by simp[mR,]
    have em:=t _ j;simp only[lM,b9]at em;rw[em];simp only[cM];refine mJ ?_;refine gR (bA d.q c) (λ{w}=>rN w) (bA (λ{z}=>@bn.d2 _ _ _ (b z) λk=>aM k) (bF p o)) (k1 ?_);all_goals simp[iw]
   by_cases A:l=22
   .subst A;by_cases n:v.k=0
    .skip
     have j:mR 22 v=.ok (j1 0):=by simp[mR,n]
     have em:=t _ j;simp only[lM,b9]at em;rw[em];simp only[cM];refine mJ ?_;refine gR (dS d.q c n) (λ{w}=>qH w) (bA (λ{z}=>@bn.d2 _ _ _ (b z) λk=>aM k) (bF p o)) (k1 ?_);all_goals simp[j1]
    by_cases s:v.k=1
    .skip
     have j:mR 22 v=.ok v:=by simp[mR,n,s]
     have em:=t _ j;simp only[lM,b9]at em;rw[em];simp only[cM];refine mJ ?_;exact gR (fW d.q c n s) trivial (bA (λ{z}=>@bn.d2 _ _ _ (b z) λk=>aM k) (bF p o)) k0
    .skip
     have j:mR 22 v=.error 1003:=by simp[mR,n,s]
     have em:=t _ j;simp only[lM,b9]at em;rw[em];simp only[cM];refine mJ ?_;exact gD (fW d.q c n s) trivial (bA (λ{z}=>@bn.d2 _ _ _ (b z) λk=>aM k) (bF p o)) (λ{z}=>@bn.d3 _ _ _ (b z) λk=>gL 1003 k) k0
   by_cases B:l=23
   .subst B;by_cases n:v.k=0
    .have I:oc E=.ok ⟨2,0,E⟩:=by unfold oc;rw[ak (by decide)]
     have j:mR 23 v=.ok ⟨2,0,E⟩:=by simp[mR,n,I]
     have em:=t _ j;simp only[lM,b9]at em;rw[em];simp only[cM];refine mJ ?_;exact gR (dS d.q c n) trivial (dS (λ{z}=>@bn.d2 _ _ _ (b z) λk=>aM k) (bF p o) (λ{z}=>@bn.d3 _ _ _ (b z) λk=>jN (um E k) I)) k0
    by_cases s:v.k=2
    .skip
     have j:mR 23 v=.ok v:=by simp[mR,n,s]
     have em:=t _ j;simp only[lM,b9]at em;rw[em];simp only[cM];refine mJ ?_;exact gR (fW d.q c n s) trivial (bA (λ{z}=>@bn.d2 _ _ _ (b z) λk=>aM k) (bF p o)) k0
    .skip
     have j:mR 23 v=.error 1003:=by simp[mR,n,s]
     have em:=t _ j;simp only[lM,b9]at em;rw[em];simp only[cM];refine mJ ?_;exact gD (fW d.q c n s) trivial (bA (λ{z}=>@bn.d2 _ _ _ (b z) λk=>aM k) (bF p o)) (λ{z}=>@bn.d3 _ _ _ (b z) λk=>gL 1003 k) k0
   .skip
    have j:mR l v=.ok v:=by simp[mR,A,B,y]
    have em:=t _ j;simp only[lM,b9]at em;rw[em];simp only[cM];refine mJ ?_;exact gR (rG d.q c u f g i A B y) trivial (bA (λ{z}=>@bn.d2 _ _ _ (b z) λk=>aM k) (bF p o)) k0
  .skip
   have em:lA k.cz l a m=.no M e G F:=by simp[lA,u,f,g,i,c,o,Rs.bind]
   rw[em];simp only[cM];refine mJ ?_;exact gD (vE d.q c u f g i) trivial (λ{z}=>@bn.d2 _ _ _ (b z) λk=>aM k) (fH p o) k0
 .skip
  have em:lA k.cz l a m=.no 2 1009 E m:=by simp[lA,u,f,g,i,c,b9]
  rw[em];simp only[cM];refine mJ ?_;exact gD (vE d.q c u f g i) trivial trivial (λ{z}=>@bn.d2 _ _ _ (b z) λk=>cq k) k0
end
end
section
open Go Go.Dv
def Rd(n:Nat)(m a:MS):Prop:=∃r,a={m with reads:=r}/\eY r/\r.length<=m.reads.length+n
def Rd.refl{m:MS}(h:eY m.reads)(n:Nat):Rd n m m:=⟨m.reads,rfl,h,Hi _ _⟩
def Rd.trans{a b:Nat}{m e d:MS}(h:Rd a m e)(f:Rd b e d):Rd (a+b) m d:=by
 obtain⟨r,rfl,n,o⟩:=h;obtain⟨i,rfl,j,l⟩:=f;exact⟨i,rfl,j,by simp only at l;omega⟩
def Rd.le{a b:Nat}{m d:MS}(h:Rd a m d)(e:a<=b):Rd b m d:=by
 obtain⟨r,rfl,f,i⟩:=h;exact⟨r,rfl,f,ae⟩
def zT{b:Type}(P:b->Prop)(d:MS->Prop):Rs b->Prop
 | .ok a m=>P a/\d m
 | .no _ _ _ m=>d m
def zT.bind{b d:Type}{P:b->Prop}{Q:d->Prop}{R S:MS->Prop}{r:Rs b}{f:b->MS->Rs d}(h:zT P R r)(e:∀m,R m->S m)(i:∀a m,P a->R m->zT Q S (f a m)):zT Q S (r.bind f):=by
 cases r with
 |ok a m=>exact i a m h.1 h.2
 |no j c k m=>exact e m h
def zT.imp{b:Type}{P Q:b->Prop}{R S:MS->Prop}{r:Rs b}(h:zT P R r)(e:∀a,P a->Q a)(d:∀m,R m->S m):zT Q S r:=by
 cases r with
 |ok a m=>exact⟨e a h.1,d m h.2⟩
 |no f c k m=>exact d m h
def Pd(P:dY->Prop):An->Prop
 | .ok v=>P v
 | .error _=>True
def fA.w(n:Int):fA (qG n):=by
 unfold fA qG;rw[Go.IntKind.wrap_i64];omega
def fA.c1:fA 1:=⟨by decide,by decide⟩
def fA.c2:fA 2:=⟨by decide,by decide⟩
def fA.c3:fA 3:=⟨by decide,by decide⟩
def fA.z:fA 0:=⟨by decide,by decide⟩
def VH:E.size<=jL:=by decide
def rT{n:Int}(h:fA n):er (j1 n):=⟨fA.c1,h,VH⟩
def ui(b:Bool):er (iw b):=⟨fA.c3,by cases b with|false=>exact fA.z|true=>exact fA.c1,VH⟩
def AZ(s:ByteArray):Pd er (oc s):=by
 unfold oc;split
 .trivial
 .exact⟨fA.c2,fA.z,by simp only[jL];omega⟩
def Dd{x:Int×Int}(h:fA x.1):Pd er (iB x):=by
 unfold iB;split
 .exact rT h
 .split<;>trivial
def xJ(a:Int):fA (tt a).1:=by
 unfold tt;split
 .exact fA.z
 .exact fA.w _
def Uy(a b:Int):fA (rS a b).1:=by
 unfold rS;split
 .exact fA.z
 .exact fA.w _
def TX(a b:Int):fA (rJ a b).1:=by
 unfold rJ;split
 .exact fA.z
 .exact fA.w _
def TA(a b:Int):fA (qU a b).1:=by
 unfold qU;split
 .exact fA.z
 .split
  .exact xJ b
  .split
   .exact xJ a
   .split
    .exact fA.z
    .exact fA.w _
def Sy(a b:Int):fA (tF a b).1:=by
 unfold tF;split
 .exact fA.z
 .split
  .exact xJ a
  .split<;>exact fA.w _
def U9{a b:Int}(h:fA a)(e:fA b):fA (tu a b).1:=by
 unfold tu;split
 .exact fA.z
 .rename_i f;split
  .exact fA.z
  .split
   .exact fA.w _
   .simp only[fA]at h⊢;have i:(a.tmod b).natAbs<=a.natAbs:=by rw[Int.natAbs_tmod];exact Nat.mod_le _ _
    by_cases c:a<0
    .have d:a.tmod b<=0:=by
      have:=GK (a:=-a) b ae;rw[Int.neg_tmod]at this;omega
     omega
    .have d:=GK (a:=a) b ae;omega
def MQ{d a b:Int}(h:fA a)(e:fA b):Pd er (fQ d a b):=by
 unfold fQ;refine Dd ?_;split
 .exact Uy a b
 .split
  .exact TX a b
  .split
   .exact TA a b
   .split
    .exact Sy a b
    .exact U9 h e
def Up{d:Int}{a b:dY}(h:er a)(e:er b):Pd er (dM d a b):=by
 unfold dM;split
 .split
  .exact MQ h.2.1 e.2.1
  .trivial
 .split
  .split
   .exact ui _
   .trivial
  .split
   .split
    .exact ui _
    .trivial
   .split
    .split
     .exact AZ _
     .trivial
    .unfold ta;split
     .exact ui _
     .trivial
def U4{a:Int}{v:dY}(h:er v):Pd er (mR a v):=by
 unfold mR;split
 .exact ui _
 .split
  .exact rT fA.z
  .split
   .exact AZ _
   .split
    .trivial
    .exact h
section
variable{c:Cz}(hg:∀k,er (c.g k))
def Ck{x:An}{m:MS}{R:MS->Prop}(h:Pd er x)(a:R m):zT er R (lM x m):=by
 cases x with
 |ok v=>exact⟨h,a⟩
 |error e=>exact a
include hg in
theorem PG(a:ByteArray){m:MS}(b:eY m.reads)(d:∀k v,m.own k=some v->er v):zT er (Rd 1 m) (iG c a m):=by
 unfold iG;split
 .cases e:m.own a with
  |some v=>exact⟨d _ _ e,Rd.refl b 1⟩
  |none=>
   simp only;split
   .exact Rd.refl b 1
   .exact⟨hg a,⟨ins a m.reads,rfl,Bs b,A8 a m.reads⟩⟩
 .exact Rd.refl b 1
include hg in
theorem YJ{f:Int}{a:dY}(h:er a){m:MS}(e:eY m.reads)(i:∀k v,m.own k=some v->er v):zT er (Rd 1 m) (lA c f a m):=by
 have b:=Rd.refl e 1;unfold lA;split
 .split
  .exact Ck (Dd (xJ _)) b
  .exact b
 .split
  .split
   .exact⟨ui _,b⟩
   .exact b
  .split
   .split
    .exact Ck (AZ _) b
    .exact b
   .split
    .split
     .refine⟨rT ?_,b⟩;have:=h.2.2;simp only[fA,jL]at this⊢;omega
     .exact b
    .split
     .exact(PG hg a.s e i).bind (λ_ d=>d) λv l j d=>Ck (U4 j) d
     .exact b
include hg in
theorem Y5{d:Int}{l:List dY}(h:∀a∈l,er a){m:MS}(b:eY m.reads)(e:∀k v,m.own k=some v->er v):zT er (Rd 1 m) (AO c d l m):=by
 unfold AO;split
 .exact YJ hg (h _ az) b e
 .exact Ck (Up (h _ az) (h _ az)) (Rd.refl b 1)
 .exact Rd.refl b 1
mutual
theorem C0(c:Cz)(hg:∀k,er (c.g k))(e:bj)(d:e.ok)(m:MS)(b:eY m.reads)(p:∀k v,m.vars k=some v->er v)(q:∀k v,m.own k=some v->er v):zT er (Rd e.sz m) (eO c e m):=by
 cases e with
 |mk z n s f t=>
  simp only[bj.ok]at d;unfold eO;split
  .exact⟨rT d.2.1,Rd.refl b _⟩
  .split
   .exact⟨⟨fA.c2,fA.z,d.2.2.1⟩,Rd.refl b _⟩
   .split
    .cases e:m.vars s with
     |some v=>exact⟨p _ _ e,Rd.refl b _⟩
     |none=>exact Rd.refl b _
    .refine(Gm c hg t d.2.2.2 m b p q).bind (λu i=>i.le (by simp only[bj.sz];omega)) λl u w i=>?_
     have j:=i;obtain⟨r,rfl,x,A⟩:=i;refine(Y5 (m:={m with reads:=r}) hg w x q).imp (λ_ h=>h) λy o=>Rd.le (a:=dE t+1) (j.trans o) (by simp only[bj.sz];omega)
theorem Gm(c:Cz)(hg:∀k,er (c.g k))(l:List bj)(i:lu l)(m:MS)(o:eY m.reads)(p:∀k v,m.vars k=some v->er v)(q:∀k v,m.own k=some v->er v):zT (λl=>∀a∈l,er a) (Rd (dE l) m) (jc c l m):=by
 cases l with
 |nil=>unfold jc;exact⟨λa h=>by simp at h,Rd.refl o _⟩
 |cons e r=>
  simp only[lu]at i;unfold jc;refine(C0 c hg e i.1 m o p q).bind (λs f=>f.le (by simp only[dE];omega)) λv s j f=>?_
  have d:=f;obtain⟨t,rfl,u,y⟩:=f;refine(Gm c hg r i.2 {m with reads:=t} u p q).bind (λn b=>Rd.le (a:=e.sz+dE r) (d.trans b) (by simp only[dE];omega)) λl n w b=>?_
  exact⟨λa x=>(List.mem_cons.1 x).elim (λe=>e▸j) (w a),Rd.le (a:=e.sz+dE r) (d.trans b) (by simp only[dE];omega)⟩
end
end
end
section
open Go Go.Dv
structure Ht(k:Kc):Prop where
 rd:k.rd.length<=1048576
 wr:k.wr.length<=1048576
 st:k.st.length<=1099511627776
 vs:∀p∈k.st,er p.v
def Ht.g{k:Kc}(h:Ht k)(a:ByteArray):er (k.cz.g a):=by
 show er (cD k.st a)
 unfold cD;split
 .rename_i p e;exact h.vs p (List.mem_of_find?_eq_some e)
 .exact Ii
section
variable{L T:Heap}{nx:Nat}
def je.c4{b c d e:bq}(h:je L T nx)(a:b.below (nx+1)=true:=by rfl)(f:c.below (nx+1+1)=true:=by rfl)(g:d.below (nx+2+1)=true:=by rfl)(i:e.below (nx+3+1)=true:=by rfl):je ((nx+3,e)::(nx+2,d)::(nx+1,c)::(nx,b)::L) T (nx+4):=(((h.cons a).cons f).cons g).cons i
def bn.c4{H:Heap}{nx:Nat}{b c d e:bq}(h:bn H nx)(a:b.below (nx+1)=true:=by rfl)(f:c.below (nx+1+1)=true:=by rfl)(g:d.below (nx+2+1)=true:=by rfl)(i:e.below (nx+3+1)=true:=by rfl):bn ((nx+3,e)::(nx+2,d)::(nx+1,c)::(nx,b)::H) (nx+4):=(((h.cons a).cons f).cons g).cons i
def BI:∀{l:List bj} {e:bj},e∈l->e.sz<=dE l
 |x::r,e,h=>by
  simp only[dE];rcases List.mem_cons.1 h with rfl|h
  .omega
  .have:=BI h;omega
def K7{P q:Prop}(k:q)(h:Bx q->P:=by
 intro k;refine hZ (af:=VL) rfl rfl ?_;unfold VL;dsimp only[ai,gJ];exact k.q):P:=h ⟨k⟩
def Lm(k:Kc)(B:Ht k):∀(n:Nat) (e:bj),e.sz<=n->∀(L:Heap) (nx:Nat) (m:MS),e.ok->je L T nx->eY m.reads->m.reads.length+e.sz<=1099511627776->(∀k v,m.vars k=some v->er v)->(∀k v,m.own k=some v->er v)->
  CS tb 137 [.ptr 6 0,.agg [.p (.int .i64 e.op),.p (.int .i64 e.n),.p (.str e.s),.p (.slice e.f (cn e.xs))]] (L++mb T k m) nx (cM L T k nx gJ (eO k.cz e m))
 |0,e,Y=>by cases e;simp[bj.sz]at Y
 |n+1,.mk q z s f g,Y=>by
  intro L nx m he h hs hl hv ho;obtain⟨x,rfl⟩:=h.ex;have t:=h.lf k;have J:=h.ml k;simp only[bj.op,bj.n,bj.s,bj.f,bj.xs];by_cases Z:q=1
  .subst Z;have em:eO k.cz (.mk 1 z s f g) m=.ok (j1 z) m:=by unfold eO;simp
   rw[em];simp only[cM];refine K7 ?_;refine gP t.q (λ{z1}=>qH z1) (k1 ?_);all_goals simp[j1]
  by_cases n2:q=2
  .subst n2;have em:eO k.cz (.mk 2 z s f g) m=.ok ⟨2,0,s⟩ m:=by unfold eO;simp
   rw[em];simp only[cM];refine K7 ?_;exact gN t.q k0
  by_cases n3:q=3
  .subst n3;cases W:m.vars s with
   |some v=>
    have em:eO k.cz (.mk 3 z s f g) m=.ok v m:=by unfold eO;simp[W]
    have C:=CY W;rw[em];simp only[cM];refine K7 ?_;exact gR (bA t.q C) trivial (λ{z}=>@bn.d3 _ _ _ (J z) λk=>aM k) k0
   |none=>
    have em:eO k.cz (.mk 3 z s f g) m=.no 2 1009 E m:=by unfold eO;simp[W,b9]
    have C:=FG W;rw[em];simp only[cM];refine K7 ?_;exact gD (bA t.q C) trivial trivial (λ{z}=>@bn.d3 _ _ _ (J z) λk=>cq k) k0
  have em:eO k.cz (.mk q z s f g) m=(jc k.cz g m).bind (AO k.cz q):=by rw[eO];simp[Z,n2,n3]
  rw[em];refine K7 ?_
  (try simp(disch:=omega) only[go_sem,seval,reduceCtorEq,t.q,Z,n2,n3,bB])
  have x2:lu g:=by simp only[bj.ok]at he;exact he.2.2.2
  have x3:dE g<=n:=by simp only[bj.sz]at Y;omega
  have x4:m.reads.length+1+dE g<=1099511627776:=by simp only[bj.sz]at hl;omega
  refine bL (λj K=>∃(i:Nat) (y:List dY) (p:MS),i+j=g.length/\y.length=i/\eY p.reads/\p.reads.length+1+dE (g.drop i)<=1099511627776/\(∀k v,p.vars k=some v->er v)/\(∀k v,p.own k=some v->er v)/\(∀v∈y,er v)/\
    jc k.cz g m=(jc k.cz (g.drop i) p).bind (λl m=>.ok (y++l) m)/\
    K=⟨[(0,.ptr 6 0),(3,.ptr (x+11) 0),(4,.ptr (x+12) 0),(7,.ref (x+13) i 0 i),(38,.p (.slice f (cn g))),(39,.p (.int .i64 g.length)),(40,.p (.int .i64 i))],
     (x+13,.row false 3 (cy y))::(x+12,.var false [.p (.int .i64 0),.p (.int .i64 0),.p (.str ⟨#[]⟩)])::(x+11,.var false [.p (.int .i64 q),.p (.int .i64 z),.p (.str s),.p (.slice f (cn g))])::(L++mb T k p),x+14,[x+14,x+11]⟩) ?_ g.length _
   ⟨0,[],m,ae,rfl,hs,by simpa using x4,hv,ho,az,by simp only[List.drop_zero];cases jc k.cz g m<;>simp[Rs.bind],rfl⟩
  rintro j K ⟨i,y,p,hi,D,F,M,G,H,o,A,rfl⟩;refine aH IZ.eq_1 ?_;rcases bS i g.length with c|c
  .have hd:g.drop i=g[i]::g.drop (i+1):=List.drop_eq_getElem_cons c;have N:g[i].ok:=uk x2 _ (List.getElem_mem c);rw[hd]at M A;simp only[dE]at M;have x5:g[i].sz<=n:=ep (BI (List.getElem_mem c)) x3;have u:(i:Int)<g.length:=ae;have h2:(0:Int)<=i:=ae;have h3:=kT g i c;rw[bj.As]at h3;have xe:g.length<=1099511627776:=by have:=bQ g;omega
   have O:=Lm k B n g[i] x5 _ _ p N (h.c4 (b:=.var false [.p (.int .i64 q),.p (.int .i64 z),.p (.str s),.p (.slice f (cn g))]) (c:=.var false [.p (.int .i64 0),.p (.int .i64 0),.p (.str ⟨#[]⟩)]) (d:=.row false 3 (cy y)) (e:=.var false [.p (.int .i64 g[i].op),.p (.int .i64 g[i].n),.p (.str g[i].s),.p (.slice g[i].f (cn g[i].xs))])) F ae G H;have hp:=C0 k.cz B.g g[i] N p F G H;cases P:eO k.cz g[i] p with
   |no K cd Q X=>
    have ee:(jc k.cz g m).bind (AO k.cz q)=.no K cd Q X:=by rw[A,jc,P];rfl
    rw[ee];simp only[cM];exact gD (dP t.q u h2 h3 @bB) trivial trivial (fH O P) k0
   |ok v X=>
    rw[P]at hp;obtain⟨x9,xa⟩:=hp;obtain⟨r,rfl,h6,h7⟩:=xa;have c2:(i+1)*32<=an:=by simp only[an];omega
    have c3:i+1<=an:=by simp only[an];omega
    refine gR (rL t.q u h2 h3 @bB D c2 c3 @b7 @yX @Bh) trivial (bF O P) (k1 ?_);refine LI.next (m':=j-1) ae ⟨i+1,y++[v],{p with reads:=r},ae,by simp[D],h6,by simp only;omega,G,H,λw R=>?_,?_,?_⟩
    .rcases List.mem_append.1 R with R|R
     .exact o w R
     .rw[List.mem_singleton.1 R];exact x9
    .rw[A,jc,P];simp only[Rs.bind];cases jc k.cz (g.drop (i+1)) {p with reads:=r}<;>simp[Rs.bind]
    .rfl
  .have I:i=g.length:=ae;have u:¬(i:Int)<g.length:=ae;rw[List.drop_eq_nil_of_le c]at A;have ee:(jc k.cz g m).bind (AO k.cz q)=AO k.cz q y p:=by rw[A,jc];simp[Rs.bind]
   rw[ee];have xb:p.reads.length<=1099511627776:=ae;have b1:∀{c:bq},c.below (x+13+1)=true->je ((x+13,c)::(x+12,.var false [.p (.int .i64 0),.p (.int .i64 0),.p (.str ⟨#[]⟩)])::(x+11,.var false [.p (.int .i64 q),.p (.int .i64 z),.p (.str s),.p (.slice f (cn g))])::L) T (x+14):=λhc=>h.c3 rfl rfl hc
   subst D
   match y,o with
   |[],o=>
    have u:¬(0:Int)<g.length:=by simp only[List.length_nil]at I;omega
    simp only[AO,b9,cM];exact gD (dS t.q u @b7) trivial trivial (λ{z}=>@bn.d3 _ _ _ (J z) λk=>gL 1009 k) k0
   |[a],o=>
    have u:¬(1:Int)<g.length:=by simp only[List.length_cons,List.length_nil]at I;omega
    have S:cy [a]=[[.int .i64 a.k,.int .i64 a.n,.str a.s]]:=rfl;have hu:=Pg k p q a (b1 (c:=.row false 3 [[.int .i64 a.k,.int .i64 a.n,.str a.s]]) rfl) (o a az).2.1 F xb B.rd B.st;have U:AO k.cz q [a] p=lA k.cz q a p:=rfl;rw[U];cases V:lA k.cz q a p with
    |no K cd Q X=>
     simp only[cM];exact gD (dS t.q u S) trivial trivial (fH hu V) k0
    |ok v X=>
     simp only[cM];exact gR (dS t.q u S) trivial (bF hu V) k0
   |[a,b],o=>
    have u:¬(2:Int)<g.length:=by simp only[List.length_cons,List.length_nil]at I;omega
    have S:cy [a,b]=[[.int .i64 a.k,.int .i64 a.n,.str a.s],[.int .i64 b.k,.int .i64 b.n,.str b.s]]:=rfl;have U:AO k.cz q [a,b] p=lM (dM q a b) p:=rfl;rw[U];cases V:dM q a b with
    |error cd=>
     simp only[lM,b9,cM];exact gD (dS t.q u S) trivial trivial (λ{z}=>@bn.d3 _ _ _ (J z) λk=>kh (DU q a b (o a az).2.2 (o b az).2.2 k) V) k0
    |ok v=>
     simp only[lM,cM];exact gR (dS t.q u S) trivial (λ{z}=>@bn.d3 _ _ _ (J z) λk=>jN (DU q a b (o a az).2.2 (o b az).2.2 k) V) k0
   |a::b::d::r,o=>
    have h4:¬((a::b::d::r).length:Int)=1:=by simp only[List.length_cons];omega
    have h5:¬((a::b::d::r).length:Int)=2:=by simp only[List.length_cons];omega
    generalize hq:a::b::d::r=y at*;have U:AO k.cz q y p=.no 2 1009 E p:=by subst hq;rfl
    rw[U];simp only[cM];exact gD (dP t.q u h4 h5 @b7) trivial trivial (λ{z}=>@bn.d3 _ _ _ (J z) λk=>gL 1009 k) k0
end
end
section
open Go Go.Dv
structure MI(c p t:Int)(m:MS):Prop where
 rs:eY m.reads
 ps:eY m.dm
 ou:m.out.length<=16
 vs:∀k v,m.vars k=some v->er v
 os:∀k v,m.own k=some v->er v
 vo:∀v∈m.out,er v
 s0:0<=m.steps
 s1:m.steps<=t
 rl:(m.reads.length:Int)+c<=2097152*m.steps
 pl:(m.dm.length:Int)+p<=m.steps
 po:∀k∈m.dm,(m.own k).isSome=true
def MI.le{c p t c' p' t':Int}{m:MS}(h:MI c p t m)(a:c'<=c)(b:p'<=p)(d:t<=t'):MI c' p' t' m:=
 ⟨h.rs,h.ps,h.ou,h.vs,h.os,h.vo,h.s0,by have:=h.s1;omega,by have:=h.rl;omega,by have:=h.pl;omega,h.po⟩
def xK{b:Type}(P:b->Prop)(R S:MS->Prop):Rs b->Prop
 | .ok a m=>P a/\R m
 | .no _ _ _ m=>S m
def xK.bind{b d:Type}{P:b->Prop}{Q:d->Prop}{R S e:MS->Prop}{r:Rs b}{f:b->MS->Rs d}(h:xK P R S r)(g:∀a m,P a->R m->xK Q e S (f a m)):xK Q e S (r.bind f):=by
 cases r with
 |ok a m=>exact g a m h.1 h.2
 |no i c k m=>exact h
abbrev pN:MS->Prop:=MI 0 0 16384
abbrev B3:MS->Prop:=MI 0 0 16385
abbrev GC{a:Type}(_:a):Prop:=True
def B5{m:MS}(h:pN m):xK GC (MI 2097152 1 16384) B3 (lN m):=by
 have a:=h.s0;have b:=h.s1;have c:=h.rl;have d:=h.pl;unfold lN;split
 .exact⟨h.rs,h.ps,h.ou,h.vs,h.os,h.vo,by simp only;omega,by simp only;omega,by simp only;omega,by simp only;omega,h.po⟩
 .exact⟨trivial,h.rs,h.ps,h.ou,h.vs,h.os,h.vo,by simp only;omega,by simp only;omega,by simp only;omega,by simp only;omega,h.po⟩
def tf{c:Cz}(i:∀k,er (c.g k)){e:bj}(j:e.ok)(l:e.sz<=jL){m:MS}{a p:Int}(s:1048576<=a)(n:0<=p)(h:MI a p 16384 m):xK er (MI (a-1048576) p 16384) B3 (eO c e m):=by
 have b:=C0 c i e j m h.rs h.vs h.os;have t:=h.rl;have f:∀d,Rd e.sz m d->MI (a-1048576) p 16384 d:=by
  rintro _ ⟨r,rfl,o,u⟩;refine⟨o,h.ps,h.ou,h.vs,h.os,h.vo,h.s0,h.s1,?_,h.pl,h.po⟩;simp only[jL]at l⊢;omega
 cases g:eO c e m with
 |ok v d=>rw[g]at b;exact⟨b.1,f _ b.2⟩
 |no w x q d=>rw[g]at b;exact(f _ b).le ae n ae
def GW{m:MS}{a p t:Int}(h:MI a p t m)(k:ByteArray){v:dY}(c:er v):MI a p t (lY k v m):=by
 refine⟨h.rs,h.ps,h.ou,λj w b=>?_,h.os,h.vo,h.s0,h.s1,h.rl,h.pl,h.po⟩;simp only[lY,pP]at b;split at b
 .cases b;exact c
 .exact h.vs _ _ b
def Lf{c:Cz}{b:ByteArray}{v:dY}(g:er v){m:MS}{a:Int}(f:0<=a)(h:MI a 1 16384 m):xK GC pN B3 (iA c b v m):=by
 have k:=h.pl;have l:=A8 b m.dm;unfold iA;split
 .split
  .exact h.le f ae ae
  .refine⟨trivial,h.rs,Bs h.ps,h.ou,h.vs,λj w d=>?_,h.vo,h.s0,h.s1,by have:=h.rl;simp only;omega,by simp only;omega,λj i=>?_⟩
   .simp only[pP]at d;split at d
    .cases d;exact g
    .exact h.os _ _ d
   .simp only[pP];split
    .rfl
    .rename_i e;exact h.po j ((uU.1 i).resolve_left e)
 .exact h.le f ae ae
def VV{v:dY}(f:er v){m:MS}{a p:Int}(c:0<=a)(d:0<=p)(h:MI a p 16384 m):xK GC pN B3 (s9 v m):=by
 unfold s9;split
 .exact h.le c d ae
 .rename_i g;have e:=h.le (c':=0) (p':=0) (t':=16384) c d ae;refine⟨trivial,h.rs,h.ps,by have:=h.ou;simp only[List.length_append,List.length_cons,List.length_nil];omega,h.vs,h.os,λw b=>?_,h.s0,h.s1,e.rl,e.pl,h.po⟩;rcases List.mem_append.1 b with b|b
  .exact h.vo w b
  .rw[List.mem_singleton.1 b];exact f
def Ot{f:Int->MS->Rs Unit}(a:∀i m,fA i->pN m->xK GC pN B3 (f i m)):∀(n:Nat) (i:Int) (m:MS),-9223372036854775808<=i->i+n<=9223372036854775807+1->pN m->xK GC pN B3 (pV f n i m)
 |0,i,m,_,_,h=>⟨trivial,h⟩
 |n+1,i,m,b,e,h=>(a i m ⟨b,ae⟩ h).bind λ_ c _ d=>Ot a n (i+1) c ae ae d
mutual
theorem Oc(c:Cz)(p:∀k,er (c.g k))(s:cl)(C:s.ok)(m:MS)(h:MI 2097152 1 16384 m):xK GC pN B3 (cC c s m):=by
 cases s with
 |mk L name max a b f o g u=>
  simp only[cl.ok]at C;obtain⟨_,_,D,⟨G,x⟩,⟨E,r⟩,l,t⟩:=C;have H:B3 m:=h.le ae ae ae;have q:∀(Q:dY->MS->Rs Unit),(∀v j,er v->MI 1048576 1 16384 j->xK GC pN B3 (Q v j))->xK GC pN B3 ((eO c a m).bind Q):=λQ I=>
   (tf p G x ae ae h).bind λv j n d=>I v j n (d.le ae ae ae)
  unfold cC;split
  .refine q _ λv j n d=>⟨trivial,GW (d.le ae ae ae) name n⟩
  .split
   .refine q _ λv j n d=>(tf p E r ae ae d).bind λw y z e=>?_
    split
    .exact Lf z ae e
    .exact e.le ae ae ae
   .split
    .refine q _ λv j n d=>?_
     split
     .exact Lf Ii ae d
     .exact d.le ae ae ae
    .split
     .refine q _ λv j n d=>?_
      split
      .split
       .exact ob c p o l j (d.le ae ae ae)
       .exact ob c p u t j (d.le ae ae ae)
      .exact d.le ae ae ae
     .split
      .refine q _ λv j n d=>(tf p E r ae ae d).bind λw y z e=>?_
       split
       .split
        .exact e.le ae ae ae
        .have F:=n.2.1;have J:=z.2.1;simp only[fA]at F J;refine Ot (λi M K A=>(B5 A).bind λ_ N _ B=>ob c p o l _ (GW (B.le ae ae ae) name (rT K))) _ _ _ F.1 ?_ (e.le ae ae ae);omega
       .exact e.le ae ae ae
      .split
       .refine q _ λv j n d=>?_
        split
        .exact VV n ae ae d
        .exact d.le ae ae ae
       .split
        .exact H
        .exact⟨trivial,h.le ae ae ae⟩
theorem ob(c:Cz)(b:∀k,er (c.g k))(l:List cl)(a:dU l)(m:MS)(h:pN m):xK GC pN B3 (cJ c l m):=by
 cases l with
 |nil=>unfold cJ;exact⟨trivial,h⟩
 |cons s r=>
  simp only[dU]at a;unfold cJ;exact(B5 h).bind λ_ d _ e=>(Oc c b s a.1 d e).bind λ_ f _ g=>ob c b r a.2 f g
end
end
end Go.Dv.Tryz
