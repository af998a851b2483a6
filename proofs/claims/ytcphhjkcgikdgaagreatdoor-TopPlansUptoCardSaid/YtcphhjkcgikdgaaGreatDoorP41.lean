/- Lemmas for the law of this claim. -/
import Derived.Test.YtcphhjkcgikdgaaGreatDoorP40
import Derived.Test.YtcphhjkcgikdgaaGreatDoorP34
import Derived.Test.YtcphhjkcgikdgaaGreatDoorP38
set_option linter.all false
set_option maxRecDepth 100000
set_option maxHeartbeats 8000000
namespace Go.Dv.Tryz
section
open Go Go.Dv
def wU(V:VX)(k:ByteArray)(a:AV):fF (dJ V.f) k (some (.agg [.bool a.isSome,.int .i64 (a.getD V0).k,.int .i64 (a.getD V0).n,.str (a.getD V0).s]))=dJ (V.set k a).f:=by
 funext j;simp only[fF,dJ,VX.set];by_cases h:j=k
 .rw[aq h,aq h];rfl
 .rw[an h,an h]
def yS{V:VX}{k:ByteArray}{z a:AV}(h:V.f k=some z):(V.set k a).n=V.n:=by simp[VX.set,h]
def xO{V:VX}{k:ByteArray}{a:AV}(h:V.f k=none):(V.set k a).n=V.n+1:=by simp[VX.set,h]
def s8{V:VX}{k:ByteArray}{z:AV}(h:V.f k=some z):dJ V.f k=some (tz z):=by simp[dJ,h]
def tJ{V:VX}{k:ByteArray}(h:V.f k=none):dJ V.f k=none:=by simp[dJ,h]
def Kh{p:Pc}{op:Int}{name:ByteArray}{max:Int}{a b:aF}{f:Bool}{o:List aX}{g:Bool}{els:List aX}(hB:Hu p f o)(kB:zO (bp o))(u w:Int)(iu:df u)(iw:df w){L:Heap}{nx:Nat}{x:XS}{V:VX}(h:LX L nx)(hx:wq x)(hV:VK V)(hn:pQ V):
  BS tb 159 [.ptr 4 0,.agg (bA op name max a b f o g els),.p (.int .i64 u),.p (.int .i64 w),.p (.map V.n (dJ V.f))] (L++Hx p x) nx (iL (if oy u w max then(none,x)else gG (λi V x=>bp o (V.set name (some (dt i))) x) (w-u).toNat u V x)) (L++Hx p (if oy u w max then((none:Option VX),x)else gG (λi V x=>bp o (V.set name (some (dt i))) x) (w-u).toNat u V x).2) nx:=by
 obtain⟨y,rfl⟩:=h.ex;have l:=h.xf (p:=p);have T:=Gj w u;simp only[gZ]at T;have n:(4<y+6)=True:=aZ ae;have xl:=iu.1;have xm:=iu.2;have xn:=iw.1;have xo:=iw.2;have q6:=h.cons (k:=.var false (bA op name max a b f o g els));refine cH (af:=a159) rfl rfl ?_;unfold a159;dsimp only[aj,bA];by_cases Q:oy u w max=true
 .rw[aq Q];simp only[iL,jj,Option.isSome_none];simp only[oy,aO,iT,jW,cp,ug]at Q;obtain⟨K,c2⟩:=Q;have U:(w>u)=True:=aZ K;by_cases X:(mh w u).2=0
  .have c4:((mh w u).1>max)=True:=aZ (c2.elim (λe=>absurd X e) id);exact gP (pS l.q n U (aZ X) c4 bC) T k0
  .exact gP (dM l.q n U X bC) T k0
 .rw[an Q];simp only[oy,aO,iT,jW,cp,ug]at Q;have R:(¬w>u)\/(w>u/\(mh w u).2=0/\¬(mh w u).1>max):=by
   by_cases K:u<w
   .refine .inr ⟨K,?_,?_⟩
    .exact Sl λe=>Q ⟨K,.inl e⟩
    .exact λe=>Q ⟨K,.inr e⟩
   .exact .inl K
  generalize hF:(λ(i:Int) (V:VX) (x:XS)=>bp o (V.set name (some (dt i))) x)=F;rcases R with K|⟨K,c2,X⟩
  case' inl=>refine gP (eY l.q n K bC) T (k1 ?_)
  case' inr=>refine gP (pS l.q n (aZ K) (aZ c2) X bC) T (k1 ?_)
  all_goals
   refine bU (λj st=>∃(k:Nat) (J:XS) (G:VX),k+j=(w-u).toNat/\gG F (w-u).toNat u V x=gG F j (u+k) G J/\wq J/\VK G/\pQ G/\st=⟨[(0,.ptr 4 0),(3,.p (.int .i64 w)),(4,.p (.map G.n (dJ G.f))),(6,.ptr (y+5) 0),(14,.p (.int .i64 (u+k)))],(y+5,.var false (bA op name max a b f o g els))::(L++Hx p J),y+6,[y+6,y+5]⟩) ?_ (w-u).toNat _ ⟨0,x,V,ae,aB,hx,hV,hn,by simp[bA]⟩;rintro j st ⟨k,J,G,xr,x5,Y,x6,Z,rfl⟩;refine bq JS.eq_1 ?_;dsimp only[bA];rw[x5];have t:∀x,ah (L++Hx p x) (y+(6+(1+G.n)))=none:=λx=>h.nn x _ ae
   have A:∀x,az (y+(6+(1+G.n))) (L++Hx p x)=L++Hx p x:=λx=>h.bb x _ ae
   have B:∀x,cL (y+(6+(1+G.n))) (L++Hx p x)=true:=λx=>h.ll x _ ae
   cases j with
   |zero=>
    have s:¬u+(k:Int)<w:=ae;simp only[gG,iL,jj,Option.isSome_some];exact gN (eY l.q n s bC) k0
   |succ m=>
    clear K;have s:u+(k:Int)<w:=ae;have C:(y+5<=y+(6+(1+G.n)))=True:=aZ ae;have D:(y+6<=y+(6+(1+G.n)))=True:=aZ ae;have io:df (u+k):=⟨ae,ae⟩;have M:=vJ G Z (H:=((y+5,.var false (bA op name max a b f o g els))::L)++Hx p J) (nx:=y+6) (λc M=>q6.nn J c M) (q6.bb J _ (Nat.le_refl _)) (q6.ll J _ (Nat.le_refl _));simp only[List.cons_append,bA]at M;have d:fF (dJ G.f) name (some (.agg [.bool true,.int .i64 1,.int .i64 (u+k),.str E]))=dJ (G.set name (some (dt (u+k)))).f:=wU G name (some (dt (u+k)));have vk:=wO x6 name (some (dt (u+k))) (λv e=>by cases e;exact jA io);have en:=ta Z name (some (dt (u+k)));have hq:∀n',LX ((y+6,.map true (.strs n' (dJ (G.set name (some (dt (u+k)))).f)))::(y+5,.var false (bA op name max a b f o g els))::L) (y+(6+(1+G.n))):=λn'=>by
     have:=(q6.cons (k:=.map true (.strs n' (dJ (G.set name (some (dt (u+k)))).f)))).up G.n
     rwa [show y+5+1+1+G.n=y+(6+(1+G.n)) by omega]at this
    have x7:∀V x,F (u+k) V x=bp o (V.set name (some (dt (u+k)))) x:=λV x=>by rw[<-hF]
    have x8:gG F (m+1) (u+k) G J=match F (u+k) G J with|(none,x)=>(none,x)|(some V,x)=>gG F m (u+k+1) V x:=by rw[gG];rfl
    rw[x8,x7];have S:=(dV o (G.set name (some (dt (u+k)))) J).o Y;have x1:=kB (G.set name (some (dt (u+k)))) J;have P:=λn'=>hB _ _ J (G.set name (some (dt (u+k)))) (hq n') Y vk en
    simp only[List.cons_append,bA]at P;generalize bp o (G.set name (some (dt (u+k)))) J=r at P S x1⊢;obtain⟨_|W,x'⟩:=r
    .simp only[iL,jj,Option.isSome_none]at P⊢;cases O:G.f name with
     |none=>
      have q:=tJ O;have I:=P (G.n+1);rw[xO O]at I;exact gR (q9 l.q n s q d qm t A B C D bC) trivial (bf M I) k0
     |some z=>
      have q:=s8 O;have I:=P G.n;rw[yS O]at I;exact gR (q9 l.q n s q d rq t A B C D bC) trivial (bf M I) k0
    .simp only[iL,jj,Option.isSome_some]at P;obtain⟨k1,k2⟩:=x1 W vk en rfl;cases O:G.f name with
     |none=>
      have q:=tJ O;have I:=P (G.n+1);rw[xO O]at I;repeat'(first|exact M|exact I|(simp(disch:=omega) only[go_sem,seval,reduceCtorEq,l.q,n,s,q,d,qm,t,A,B,C,D,List.set_cons_zero,List.set_cons_succ])|with_reducible exact Ev.mk|refine xY ?_|apply tY|(refine cB (by first|with_reducible exact Ev.mk|(simp(disch:=omega) only[go_sem,seval,reduceCtorEq,l.q,n,s,q,d,qm,t,A,B,C,D,List.set_cons_zero,List.set_cons_succ];done)|(simp(disch:=omega) only[go_sem,seval,reduceCtorEq,l.q,n,s,q,d,qm,t,A,B,C,D,List.set_cons_zero,List.set_cons_succ];with_reducible exact Ev.mk)) (by first|with_reducible exact Ev.mk|(simp(disch:=omega) only[go_sem,seval,reduceCtorEq,l.q,n,s,q,d,qm,t,A,B,C,D,List.set_cons_zero,List.set_cons_succ];done)|(simp(disch:=omega) only[go_sem,seval,reduceCtorEq,l.q,n,s,q,d,qm,t,A,B,C,D,List.set_cons_zero,List.set_cons_succ];with_reducible exact Ev.mk)) (M) (by first|with_reducible exact Ev.mk|(simp(disch:=omega) only[go_sem,seval,reduceCtorEq,l.q,n,s,q,d,qm,t,A,B,C,D,List.set_cons_zero,List.set_cons_succ];done)|(simp(disch:=omega) only[go_sem,seval,reduceCtorEq,l.q,n,s,q,d,qm,t,A,B,C,D,List.set_cons_zero,List.set_cons_succ];with_reducible exact Ev.mk)) ?_)|(refine cB (by first|with_reducible exact Ev.mk|(simp(disch:=omega) only[go_sem,seval,reduceCtorEq,l.q,n,s,q,d,qm,t,A,B,C,D,List.set_cons_zero,List.set_cons_succ];done)|(simp(disch:=omega) only[go_sem,seval,reduceCtorEq,l.q,n,s,q,d,qm,t,A,B,C,D,List.set_cons_zero,List.set_cons_succ];with_reducible exact Ev.mk)) (by first|with_reducible exact Ev.mk|(simp(disch:=omega) only[go_sem,seval,reduceCtorEq,l.q,n,s,q,d,qm,t,A,B,C,D,List.set_cons_zero,List.set_cons_succ];done)|(simp(disch:=omega) only[go_sem,seval,reduceCtorEq,l.q,n,s,q,d,qm,t,A,B,C,D,List.set_cons_zero,List.set_cons_succ];with_reducible exact Ev.mk)) (I) (by first|with_reducible exact Ev.mk|(simp(disch:=omega) only[go_sem,seval,reduceCtorEq,l.q,n,s,q,d,qm,t,A,B,C,D,List.set_cons_zero,List.set_cons_succ];done)|(simp(disch:=omega) only[go_sem,seval,reduceCtorEq,l.q,n,s,q,d,qm,t,A,B,C,D,List.set_cons_zero,List.set_cons_succ];with_reducible exact Ev.mk)) ?_)|(refine dh (by first|with_reducible exact Ev.mk|(simp(disch:=omega) only[go_sem,seval,reduceCtorEq,l.q,n,s,q,d,qm,t,A,B,C,D,List.set_cons_zero,List.set_cons_succ];done)|(simp(disch:=omega) only[go_sem,seval,reduceCtorEq,l.q,n,s,q,d,qm,t,A,B,C,D,List.set_cons_zero,List.set_cons_succ];with_reducible exact Ev.mk)) (M) ?_)|(refine dh (by first|with_reducible exact Ev.mk|(simp(disch:=omega) only[go_sem,seval,reduceCtorEq,l.q,n,s,q,d,qm,t,A,B,C,D,List.set_cons_zero,List.set_cons_succ];done)|(simp(disch:=omega) only[go_sem,seval,reduceCtorEq,l.q,n,s,q,d,qm,t,A,B,C,D,List.set_cons_zero,List.set_cons_succ];with_reducible exact Ev.mk)) (I) ?_)|((first|apply b5|apply bO)<;>intro N hb<;>(simp(disch:=omega) only[go_sem,seval,reduceCtorEq,l.q,n,s,q,d,qm,t,A,B,C,D,List.set_cons_zero,List.set_cons_succ,N])<;>clear N))
      exact LI.next (m':=m) ae ⟨k+1,x',W,ae,by simp only[vD,Az,Gk],S,k1,k2,by simp only[bA,vD,Az,Gk]⟩
     |some z=>
      have q:=s8 O;have I:=P G.n;rw[yS O]at I;repeat'(first|exact M|exact I|(simp(disch:=omega) only[go_sem,seval,reduceCtorEq,l.q,n,s,q,d,rq,t,A,B,C,D,List.set_cons_zero,List.set_cons_succ])|with_reducible exact Ev.mk|refine xY ?_|apply tY|(refine cB (by first|with_reducible exact Ev.mk|(simp(disch:=omega) only[go_sem,seval,reduceCtorEq,l.q,n,s,q,d,rq,t,A,B,C,D,List.set_cons_zero,List.set_cons_succ];done)|(simp(disch:=omega) only[go_sem,seval,reduceCtorEq,l.q,n,s,q,d,rq,t,A,B,C,D,List.set_cons_zero,List.set_cons_succ];with_reducible exact Ev.mk)) (by first|with_reducible exact Ev.mk|(simp(disch:=omega) only[go_sem,seval,reduceCtorEq,l.q,n,s,q,d,rq,t,A,B,C,D,List.set_cons_zero,List.set_cons_succ];done)|(simp(disch:=omega) only[go_sem,seval,reduceCtorEq,l.q,n,s,q,d,rq,t,A,B,C,D,List.set_cons_zero,List.set_cons_succ];with_reducible exact Ev.mk)) (M) (by first|with_reducible exact Ev.mk|(simp(disch:=omega) only[go_sem,seval,reduceCtorEq,l.q,n,s,q,d,rq,t,A,B,C,D,List.set_cons_zero,List.set_cons_succ];done)|(simp(disch:=omega) only[go_sem,seval,reduceCtorEq,l.q,n,s,q,d,rq,t,A,B,C,D,List.set_cons_zero,List.set_cons_succ];with_reducible exact Ev.mk)) ?_)|(refine cB (by first|with_reducible exact Ev.mk|(simp(disch:=omega) only[go_sem,seval,reduceCtorEq,l.q,n,s,q,d,rq,t,A,B,C,D,List.set_cons_zero,List.set_cons_succ];done)|(simp(disch:=omega) only[go_sem,seval,reduceCtorEq,l.q,n,s,q,d,rq,t,A,B,C,D,List.set_cons_zero,List.set_cons_succ];with_reducible exact Ev.mk)) (by first|with_reducible exact Ev.mk|(simp(disch:=omega) only[go_sem,seval,reduceCtorEq,l.q,n,s,q,d,rq,t,A,B,C,D,List.set_cons_zero,List.set_cons_succ];done)|(simp(disch:=omega) only[go_sem,seval,reduceCtorEq,l.q,n,s,q,d,rq,t,A,B,C,D,List.set_cons_zero,List.set_cons_succ];with_reducible exact Ev.mk)) (I) (by first|with_reducible exact Ev.mk|(simp(disch:=omega) only[go_sem,seval,reduceCtorEq,l.q,n,s,q,d,rq,t,A,B,C,D,List.set_cons_zero,List.set_cons_succ];done)|(simp(disch:=omega) only[go_sem,seval,reduceCtorEq,l.q,n,s,q,d,rq,t,A,B,C,D,List.set_cons_zero,List.set_cons_succ];with_reducible exact Ev.mk)) ?_)|(refine dh (by first|with_reducible exact Ev.mk|(simp(disch:=omega) only[go_sem,seval,reduceCtorEq,l.q,n,s,q,d,rq,t,A,B,C,D,List.set_cons_zero,List.set_cons_succ];done)|(simp(disch:=omega) only[go_sem,seval,reduceCtorEq,l.q,n,s,q,d,rq,t,A,B,C,D,List.set_cons_zero,List.set_cons_succ];with_reducible exact Ev.mk)) (M) ?_)|(refine dh (by first|with_reducible exact Ev.mk|(simp(disch:=omega) only[go_sem,seval,reduceCtorEq,l.q,n,s,q,d,rq,t,A,B,C,D,List.set_cons_zero,List.set_cons_succ];done)|(simp(disch:=omega) only[go_sem,seval,reduceCtorEq,l.q,n,s,q,d,rq,t,A,B,C,D,List.set_cons_zero,List.set_cons_succ];with_reducible exact Ev.mk)) (I) ?_)|((first|apply b5|apply bO)<;>intro N hb<;>(simp(disch:=omega) only[go_sem,seval,reduceCtorEq,l.q,n,s,q,d,rq,t,A,B,C,D,List.set_cons_zero,List.set_cons_succ,N])<;>clear N))
      exact LI.next (m':=m) ae ⟨k+1,x',W,ae,by simp only[vD,Az,Gk],S,k1,k2,by simp only[bA,vD,Az,Gk]⟩
end
section
open Go Go.Dv
def yZ{p:Pc}{op:Int}{name:ByteArray}{max:Int}{a b:aF}{f:Bool}{d:List aX}{g:Bool}{els:List aX}(hB:Hu p f d)(kB:zO (bp d))(im:df max){L:Heap}{U:Nat}{x:XS}{V:VX}(h:LX L U)(hx:wq x)(hV:VK V)(hn:pQ V):
  BS tb 160 [.ptr 4 0,.agg (bA op name max a b f d g els),.p (.map V.n (dJ V.f))] (L++Hx p x) U (iL (iE (λV x=>bp d (V.set name none) x) max.toNat V x)) (L++Hx p (iE (λV x=>bp d (V.set name none) x) max.toNat V x).2) U:=by
 obtain⟨y,rfl⟩:=h.ex;have u:=h.xf (p:=p);have w:(4<y+6)=True:=aZ ae;have x9:=im.1;have xa:=im.2;have R:=h.cons (k:=.var false (bA op name max a b f d g els));refine cH (af:=a160) rfl rfl ?_;unfold a160;dsimp only[aj,bA];generalize hF:(λ(V:VX) (x:XS)=>bp d (V.set name none) x)=F;refine gN (c9 u.q w bC) (k1 ?_);refine bU (λj st=>∃(k:Nat) (o:XS) (l:VX),k+j=max.toNat/\iE F max.toNat V x=iE F j l o/\wq o/\VK l/\pQ l/\st=⟨[(0,.ptr 4 0),(2,.p (.map l.n (dJ l.f))),(4,.ptr (y+5) 0),(12,.p (.int .i64 max)),(13,.p (.int .i64 k))],(y+5,.var false (bA op name max a b f d g els))::(L++Hx p o),y+6,[y+6,y+5]⟩) ?_ max.toNat _ ⟨0,x,V,ae,rfl,hx,hV,hn,by simp[bA]⟩;rintro j st ⟨k,o,l,xc,X,P,M,q,rfl⟩;refine bq I5.eq_1 ?_;dsimp only[bA];rw[X];have D:∀x,ah (L++Hx p x) (y+(6+(1+l.n)))=none:=λx=>h.nn x _ ae
 have G:∀x,az (y+(6+(1+l.n))) (L++Hx p x)=L++Hx p x:=λx=>h.bb x _ ae
 have I:∀x,cL (y+(6+(1+l.n))) (L++Hx p x)=true:=λx=>h.ll x _ ae
 cases j with
 |zero=>
  have B:¬(k:Int)<max:=ae;simp only[iE,iL,jj,Option.isSome_some];exact gN (eY u.q w B bC) k0
 |succ m=>
  have B:(k:Int)<max:=ae;have J:(y+5<=y+(6+(1+l.n)))=True:=aZ ae;have K:(y+6<=y+(6+(1+l.n)))=True:=aZ ae;have t:=vJ l q (H:=((y+5,.var false (bA op name max a b f d g els))::L)++Hx p o) (nx:=y+6) (λc t=>R.nn o c t) (R.bb o _ (Nat.le_refl _)) (R.ll o _ (Nat.le_refl _));simp only[List.cons_append,bA]at t;have n:fF (dJ l.f) name (some (.agg [.bool false,.int .i64 0,.int .i64 0,.str E]))=dJ (l.set name none).f:=wU l name none;have vk:=wO M name none (λv e=>by cases e);have en:=ta q name none;have hq:∀Q,LX ((y+6,.map true (.strs Q (dJ (l.set name none).f)))::(y+5,.var false (bA op name max a b f d g els))::L) (y+(6+(1+l.n))):=λQ=>by
   have:=(R.cons (k:=.map true (.strs Q (dJ (l.set name none).f)))).up l.n
   rwa [show y+5+1+1+l.n=y+(6+(1+l.n)) by omega]at this
  have Y:∀V x,F V x=bp d (V.set name none) x:=λV x=>by rw[<-hF]
  have Z:iE F (m+1) l o=match F l o with|(r,x)=>if x.failed then(none,x)else match r with|none=>(some l,x)|some W=>iE F m (jm l W) x:=by rw[iE];rfl
  rw[Z,Y];have N:=(dV d (l.set name none) o).o P;have x0:=kB (l.set name none) o;have O:=λQ=>hB _ _ o (l.set name none) (hq Q) P vk en
  simp only[List.cons_append,bA]at O;generalize bp d (l.set name none) o=r at O N x0⊢;obtain⟨A,S⟩:=r;cases T:l.f name with
  |none=>
   have C:=tJ T;have i:=O (l.n+1);rw[xO T]at i;clear O;cases s:S.failed with
   |true=>
    simp only[s,bZ,iL,jj,Option.isSome_none];cases A with
    |none=>
     simp only[iL,jj,Option.isSome_none]at i;exact gR (mg u.q w B C n s qm D G I J K bC) trivial (bf t i) k0
    |some W=>
     simp only[iL,jj,Option.isSome_some]at i;exact gR (mg u.q w B C n s qm D G I J K bC) trivial (bf t i) k0
   |false=>
    simp only[s,Bool.false_eq_true,cy];cases A with
    |none=>
     simp only[iL,jj,Option.isSome_none,Option.isSome_some]at i⊢;exact gR (mg u.q w B C n s qm D G I J K bC) trivial (bf t i) k0
    |some W=>
     simp only[iL,jj,Option.isSome_some]at i;have hj:=CO l W q;refine gR (mg u.q w B C n s qm D G I J K bC) hj (bf t i) (k1 ?_);exact LI.next (m':=m) ae ⟨k+1,S,jm l W,ae,rfl,N,xR M W,ur q W,by simp only[bA,vD,Az]⟩
  |some z=>
   have C:=s8 T;have i:=O l.n;rw[yS T]at i;clear O;cases s:S.failed with
   |true=>
    simp only[s,bZ,iL,jj,Option.isSome_none];cases A with
    |none=>
     simp only[iL,jj,Option.isSome_none]at i;exact gR (mg u.q w B C n s rq D G I J K bC) trivial (bf t i) k0
    |some W=>
     simp only[iL,jj,Option.isSome_some]at i;exact gR (mg u.q w B C n s rq D G I J K bC) trivial (bf t i) k0
   |false=>
    simp only[s,Bool.false_eq_true,cy];cases A with
    |none=>
     simp only[iL,jj,Option.isSome_none,Option.isSome_some]at i⊢;exact gR (mg u.q w B C n s rq D G I J K bC) trivial (bf t i) k0
    |some W=>
     simp only[iL,jj,Option.isSome_some]at i;have hj:=CO l W q;refine gR (mg u.q w B C n s rq D G I J K bC) hj (bf t i) (k1 ?_);exact LI.next (m':=m) ae ⟨k+1,S,jm l W,ae,rfl,N,xR M W,ur q W,by simp only[bA,vD,Az]⟩
end
section
open Go Go.Dv
def Eu{p:Pc}{o:Int}{name:ByteArray}{max:Int}{a b:aF}{f:Bool}{d:List aX}{g:Bool}{n:List aX}(xv:1<=o/\o<=8)(X:(aX.mk o name max a b f d g n).ok)(hA:o≠8->XM p a)(hB:o=3\/o=6->XM p b)(hP:Hu p f d)(hQ:Hu p g n):Y5 p (.mk o name max a b f d g n):=by
 intro L nx x V h hx U Y;simp only[aX.ok]at X;obtain⟨_,_,im,⟨ha,_⟩,⟨hb,_⟩,xi,xz⟩:=X;have kB:=lS d xi;obtain⟨y,rfl⟩:=h.ex;have B:=h.xf (p:=p);have q6:=h.cons (k:=.var false (bA o name max a b f d g n));have N:=(nP a V x).o hx;simp only[aX.d];unfold mP;by_cases t:o=8
 .rw[aq t];refine⟨.undef,λW e=>(by cases e),cH (af:=a127) rfl rfl ?_⟩;unfold a127;dsimp only[aj,bA];simp only[Option.isSome_none];exact gN (c9 B.q (aZ t) bC) k0
 rw[an t];obtain⟨l,m,Z,x0⟩:=hA t _ _ x V q6 hx U;simp only[List.cons_append,bA]at m;generalize dH a V x=r at m Z x0 N⊢;obtain⟨_|va,D⟩:=r
 .have e0:sQ l=[.p (.bool l.isSome),.p (.int .i64 (l.getD V0).k),.p (.int .i64 (l.getD V0).n),.p (.str (l.getD V0).s)]:=rfl;rw[e0]at m;simp only[Option.isSome_none]at m;generalize(l.isSome:Bool)=q at m;generalize l.getD V0=zv at m;refine⟨.undef,λW e=>(by cases e),cH (af:=a127) rfl rfl ?_⟩;unfold a127;dsimp only[aj,bA];simp only[Option.isSome_none];exact gR (c9 B.q t bC) trivial m k0
 obtain rfl:=Z va rfl;have xj:∀v,l=some v->cQ v:=λv e=>x0 v (by rw[e])
 simp only[Option.isSome_some]at m;dsimp only;have Q:=q6.cons (k:=.var false (sQ l));have e0:sQ l=[.p (.bool l.isSome),.p (.int .i64 (l.getD V0).k),.p (.int .i64 (l.getD V0).n),.p (.str (l.getD V0).s)]:=rfl;rw[e0]at m Q;by_cases J:o=1\/o=2
 .rw[aq J];have n9:∀x,ah (L++Hx p x) (y+(7+(1+V.n)))=none:=λx=>h.nn x _ ae
  have b9:∀x,az (y+(7+(1+V.n))) (L++Hx p x)=L++Hx p x:=λx=>h.bb x _ ae
  have l9:∀x,cL (y+(7+(1+V.n))) (L++Hx p x)=true:=λx=>h.ll x _ ae
  have z5:(y+5<=y+(7+(1+V.n)))=True:=aZ ae;have z7:(y+7<=y+(7+(1+V.n)))=True:=aZ ae;have O:=vJ V Y (H:=((y+6,.var false [.p (.bool l.isSome),.p (.int .i64 (l.getD V0).k),.p (.int .i64 (l.getD V0).n),.p (.str (l.getD V0).s)])::(y+5,.var false (bA o name max a b f d g n))::L)++Hx p D) (nx:=y+7) (λc O=>Q.nn D c O) (Q.bb D _ (Nat.le_refl _)) (Q.ll D _ (Nat.le_refl _));simp only[List.cons_append,bA]at O;have F:=wU V name l;refine⟨.map (V.set name l).n (dJ (V.set name l).f),λW e=>(by cases e;rfl),cH (af:=a127) rfl rfl ?_⟩
  unfold a127;dsimp only[aj,bA];simp only[Option.isSome_some];generalize(l.isSome:Bool)=q at m O F;generalize l.getD V0=zv at m O F;generalize hW:V.set name l=W at F⊢;cases hz:V.f name with
  |none=>
   have h2:=tJ hz;have R:W.n=V.n+1:=by rw[<-hW];exact xO hz
   rw[R];rcases J with A|E
   .exact gR (q9 B.q t (aZ A) h2 F qm n9 b9 l9 z5 z7 bC) trivial (bf m O) k0
   .have A:¬o=1:=ae;exact gR (mg B.q t A (aZ E) h2 F qm n9 b9 l9 z5 z7 bC) trivial (bf m O) k0
  |some z=>
   have h2:=s8 hz;have R:W.n=V.n:=by rw[<-hW];exact yS hz
   rw[R];rcases J with A|E
   .exact gR (q9 B.q t (aZ A) h2 F rq n9 b9 l9 z5 z7 bC) trivial (bf m O) k0
   .have A:¬o=1:=ae;exact gR (mg B.q t A (aZ E) h2 F rq n9 b9 l9 z5 z7 bC) trivial (bf m O) k0
 rw[an J];have A:¬o=1:=λe=>J (.inl e)
 have E:¬o=2:=λe=>J (.inr e)
 by_cases I:o=7
 .rw[aq I];generalize(l.isSome:Bool)=q at m;generalize l.getD V0=zv at m;refine⟨.map V.n (dJ V.f),λW e=>(by cases e;rfl),cH (af:=a127) rfl rfl ?_⟩
  unfold a127;dsimp only[aj,bA];simp only[Option.isSome_some];exact gR (pS B.q t A E (aZ I) bC) trivial m k0
 rw[an I];have hk:=Kf (p:=p) Q D N l;by_cases K:o=4
 .rw[aq K];have S:(pr (kN l D) V).1.isSome=(kN l D).1:=by simp only[pr];cases(kN l D).1<;>rfl
  refine⟨.map V.n (dJ V.f),λW e=>(by rw[yW e]),?_⟩;rw[S];simp only[pr];simp only[List.cons_append,bA]at hk;generalize kN l D=kr at hk⊢;generalize(l.isSome:Bool)=q at m hk;generalize l.getD V0=zv at m hk;refine cH (af:=a127) rfl rfl ?_;unfold a127;dsimp only[aj,bA];exact gR (uU B.q t A E I (aZ K) bC) trivial (bf m hk) k0
 rw[an K];by_cases M:o=5
 .rw[aq M];have j:=Mk (op:=o) (name:=name) (max:=max) (a:=a) (b:=b) hP hQ kB l Q N U Y
  suffices T:∃z:PV,(∀W,(Gh l d n V D).1=some W->z=.map W.n (dJ W.f))/\BS tb 127 [.ptr 4 0,.agg (bA o name max a b f d g n),.p (.map V.n (dJ V.f))] (L++Hx p x) (y+5) (.tuple [.p z,.p (.bool (Gh l d n V D).1.isSome)]) (L++Hx p (Gh l d n V D).2) (y+5)from T
  rw[e0]at j;simp only[List.cons_append,bA]at j;generalize Gh l d n V D=r at j⊢;generalize(l.isSome:Bool)=q at m j;generalize l.getD V0=zv at m j;obtain⟨_|W,s⟩:=r
  .simp only[iL,jj,Option.isSome_none]at j;refine⟨.undef,λW e=>(by cases e),cH (af:=a127) rfl rfl ?_⟩;unfold a127;dsimp only[aj,bA];simp only[Option.isSome_none];exact gR (Gg B.q t A E I K (aZ M) bC) trivial (bf m j) k0
  .simp only[iL,jj,Option.isSome_some]at j;refine⟨.map W.n (dJ W.f),λW e=>(by cases e;rfl),cH (af:=a127) rfl rfl ?_⟩
   unfold a127;dsimp only[aj,bA];simp only[Option.isSome_some];exact gR (Gg B.q t A E I K (aZ M) bC) trivial (bf m j) k0
 rw[an M];have xk:o=3\/o=6:=ae;obtain⟨q,eB,x6,x7⟩:=hB xk _ _ D V Q N U;simp only[List.cons_append,bA]at eB;have C:=(nP b V D).o N;generalize dH b V D=r at eB x6 x7 C⊢;obtain⟨_|vb,s⟩:=r
 .have e1:sQ q=[.p (.bool q.isSome),.p (.int .i64 (q.getD V0).k),.p (.int .i64 (q.getD V0).n),.p (.str (q.getD V0).s)]:=rfl;rw[e1]at eB;simp only[Option.isSome_none]at eB;generalize(q.isSome:Bool)=wb at eB;generalize q.getD V0=wv at eB;generalize(l.isSome:Bool)=ub at m eB;generalize l.getD V0=uv at m eB;refine⟨.undef,λW e=>(by cases e),cH (af:=a127) rfl rfl ?_⟩;unfold a127;dsimp only[aj,bA];simp only[Option.isSome_none];exact gR (Gg B.q t A E I K M bC) trivial (bf m eB) k0
 obtain rfl:=x6 vb rfl;have xn:∀v,q=some v->cQ v:=λv e=>x7 v (by rw[e])
 simp only[Option.isSome_some]at eB;dsimp only;have q8:=Q.cons (k:=.var false (sQ q));have e1:sQ q=[.p (.bool q.isSome),.p (.int .i64 (q.getD V0).k),.p (.int .i64 (q.getD V0).n),.p (.str (q.getD V0).s)]:=rfl;rw[e1]at eB q8;by_cases P:o=3
 .rw[aq P];have G:=Kf (p:=p) q8 s C l;have S:(pr (kN l s) V).1.isSome=(kN l s).1:=by simp only[pr];cases(kN l s).1<;>rfl
  refine⟨.map V.n (dJ V.f),λW e=>(by rw[yW e]),?_⟩;rw[S];simp only[pr];simp only[List.cons_append,bA]at G;generalize kN l s=kr at G⊢;generalize(q.isSome:Bool)=wb at eB G;generalize q.getD V0=wv at eB G;generalize(l.isSome:Bool)=ub at m eB G;generalize l.getD V0=uv at m eB G;refine cH (af:=a127) rfl rfl ?_;unfold a127;dsimp only[aj,bA];exact gR (ow B.q t A E I K M (aZ P) bC) trivial (c9 m eB G) k0
 rw[an P];cases l with
 |none=>
  have j:=yZ (op:=o) (name:=name) (max:=max) (a:=a) (b:=b) (g:=g) (els:=n) hP kB im q8 C U Y
  suffices T:∃z:PV,(∀W,(iE (λV x=>bp d (V.set name none) x) max.toNat V s).1=some W->z=.map W.n (dJ W.f))/\BS tb 127 [.ptr 4 0,.agg (bA o name max a b f d g n),.p (.map V.n (dJ V.f))] (L++Hx p x) (y+5) (.tuple [.p z,.p (.bool (iE (λV x=>bp d (V.set name none) x) max.toNat V s).1.isSome)]) (L++Hx p (iE (λV x=>bp d (V.set name none) x) max.toNat V s).2) (y+5)from T
  simp only[List.cons_append,bA]at j;generalize iE (λV x=>bp d (V.set name none) x) max.toNat V s=r at j⊢;generalize(none:AV).getD V0=uv at m eB j;simp only[Option.isSome_none]at m eB j;generalize(q.isSome:Bool)=wb at eB j;generalize q.getD V0=wv at eB j;obtain⟨_|W,x3⟩:=r
  .simp only[iL,jj,Option.isSome_none]at j;refine⟨.undef,λW e=>(by cases e),cH (af:=a127) rfl rfl ?_⟩;unfold a127;dsimp only[aj,bA];simp only[Option.isSome_none];exact gR (ow B.q t A E I K M P bC) trivial (c9 m eB j) k0
  .simp only[iL,jj,Option.isSome_some]at j;refine⟨.map W.n (dJ W.f),λW e=>(by cases e;rfl),cH (af:=a127) rfl rfl ?_⟩
   unfold a127;dsimp only[aj,bA];simp only[Option.isSome_some];exact gR (ow B.q t A E I K M P bC) trivial (c9 m eB j) k0
 |some u=>cases q with
 |none=>
  have j:=yZ (op:=o) (name:=name) (max:=max) (a:=a) (b:=b) (g:=g) (els:=n) hP kB im q8 C U Y
  suffices T:∃z:PV,(∀W,(iE (λV x=>bp d (V.set name none) x) max.toNat V s).1=some W->z=.map W.n (dJ W.f))/\BS tb 127 [.ptr 4 0,.agg (bA o name max a b f d g n),.p (.map V.n (dJ V.f))] (L++Hx p x) (y+5) (.tuple [.p z,.p (.bool (iE (λV x=>bp d (V.set name none) x) max.toNat V s).1.isSome)]) (L++Hx p (iE (λV x=>bp d (V.set name none) x) max.toNat V s).2) (y+5)from T
  simp only[List.cons_append,bA]at j;generalize iE (λV x=>bp d (V.set name none) x) max.toNat V s=r at j⊢;generalize(none:AV).getD V0=wv at eB j;simp only[Option.isSome_none,Option.isSome_some,il]at m eB j;obtain⟨_|W,x3⟩:=r
  .simp only[iL,jj,Option.isSome_none]at j;refine⟨.undef,λW e=>(by cases e),cH (af:=a127) rfl rfl ?_⟩;unfold a127;dsimp only[aj,bA];simp only[Option.isSome_none];exact gR (ow B.q t A E I K M P bC) trivial (c9 m eB j) k0
  .simp only[iL,jj,Option.isSome_some]at j;refine⟨.map W.n (dJ W.f),λW e=>(by cases e;rfl),cH (af:=a127) rfl rfl ?_⟩
   unfold a127;dsimp only[aj,bA];simp only[Option.isSome_some];exact gR (ow B.q t A E I K M P bC) trivial (c9 m eB j) k0
 |some w=>
  have iu:=(xj u rfl).2.1;have iw:=(xn w rfl).2.1;have j:=Kh (op:=o) (name:=name) (max:=max) (a:=a) (b:=b) (g:=g) (els:=n) hP kB u.n w.n iu iw q8 C U Y
  suffices T:∃z:PV,(∀W,(if oy u.n w.n max then((none:Option VX),s)else gG (λi V x=>bp d (V.set name (some (dt i))) x) (w.n-u.n).toNat u.n V s).1=some W->z=.map W.n (dJ W.f))/\BS tb 127 [.ptr 4 0,.agg (bA o name max a b f d g n),.p (.map V.n (dJ V.f))] (L++Hx p x) (y+5) (.tuple [.p z,.p (.bool (if oy u.n w.n max then((none:Option VX),s)else gG (λi V x=>bp d (V.set name (some (dt i))) x) (w.n-u.n).toNat u.n V s).1.isSome)]) (L++Hx p (if oy u.n w.n max then((none:Option VX),s)else gG (λi V x=>bp d (V.set name (some (dt i))) x) (w.n-u.n).toNat u.n V s).2) (y+5)from T
  simp only[List.cons_append,bA]at j;generalize(if oy u.n w.n max then((none:Option VX),s)else gG (λi V x=>bp d (V.set name (some (dt i))) x) (w.n-u.n).toNat u.n V s)=r at j⊢;simp only[Option.isSome_some,il]at m eB j;obtain⟨_|W,x3⟩:=r
  .simp only[iL,jj,Option.isSome_none]at j;refine⟨.undef,λW e=>(by cases e),cH (af:=a127) rfl rfl ?_⟩;unfold a127;dsimp only[aj,bA];simp only[Option.isSome_none];exact gR (ow B.q t A E I K M P bC) trivial (c9 m eB j) k0
  .simp only[iL,jj,Option.isSome_some]at j;refine⟨.map W.n (dJ W.f),λW e=>(by cases e;rfl),cH (af:=a127) rfl rfl ?_⟩
   unfold a127;dsimp only[aj,bA];simp only[Option.isSome_some];exact gR (ow B.q t A E I K M P bC) trivial (c9 m eB j) k0
end
section
open Go Go.Dv
def Jf(p:Pc):∀(n:Nat),n<=1048576->∀s:aX,s.sz<=n->s.ok->EO s->Y5 p s
 |0,_,s,t,_,_=>by have:=s.zg;omega
 |n+1,F,.mk G name max a b f h g i,t,d,c=>by
  have j:=d;simp only[aX.ok]at d;obtain⟨_,_,_,⟨w,k⟩,⟨x,m⟩,o,q⟩:=d;simp only[aX.sz]at t;simp only[EO,nd]at c;obtain⟨⟨y,z,A,B,_⟩,C,D⟩:=c;have u:∀(r:Bool) (l:List aX),dF l<=n->cD l->oo l->Hu p r l:=λr l E v c=>
   FT r l v (by have:=da l;omega) λs d=>Jf p n ae s (dL (gO d) E) (fk v s d) (rr c s d)
  exact Eu ⟨y,z⟩ j (λe=>Ye p _ a (Nat.le_refl _) (by simpa[iq]using k) w (A e)) (λe=>Ye p _ b (Nat.le_refl _) (by simpa[iq]using m) x (B e)) (u f h ae o C) (u g i ae q D)
def RY(p:Pc)(h:jM p)(a:oo p.body):Hu p p.fb p.body:=
 FT p.fb p.body h.bo (by have:=da p.body;have:=h.bz;omega) λs b=>Jf p _ (Nat.le_refl _) s (dL (gO b) h.bz) (fk h.bo s b) (rr a s b)
end
section
open Go Go.Dv
mutual
def Tb:aX->Prop
 | .mk d name max a b _ e _ f=>(1<=d/\d<=8)/\(d=6->0<=max/\max<=1048576)/\(d≠8->MN a)/\(d=3\/d=6->MN b)/\Bb e/\Bb f
def Bb:List aX->Prop
 |[]=>True
 |s::r=>Tb s/\Bb r
end
def tx(r:Option VX):Rs Unit->Prop
 | .ok _ m=>∃W,r=some W/\nS W m.vars
 | .no a _ _ _=>a≠3
def nS.Sd{a b:VX}{d:VM}(h:nS a d):nS (jm a b) d:=λk v e=>by
 simp only[jm,vF]at e;obtain⟨x,g,f⟩:=e;split at f
 .rw[f]at g;exact h k v g
 .cases f
def nS.Uo{a b:VX}{d:VM}(h:nS b d):nS (jm a b) d:=λk v e=>by
 simp only[jm,vF]at e;obtain⟨x,i,f⟩:=e;split at f
 .rename_i g;rw[f]at g;exact h k v g
 .cases f
def nS.set{V:VX}{m:MS}(h:nS V m.vars)(k:ByteArray){a:AV}{v:bX}(d:∀w,a=some w->w=v/\KV v):nS (V.set k a) (gk k v m).vars:=λj w e=>by
 simp only[VX.set]at e;simp only[gk,l8];split at e
 .rename_i b;rw[aq b];cases e;obtain⟨rfl,f⟩:=d w rfl;exact⟨rfl,f⟩
 .rename_i b;rw[an b];exact h j w e
section
variable{c:Cz}
def FM{f:VX->XS->RX}:∀(n:Nat) (V:VX) (x:XS),om c (iE f n V x).2->∃W,(iE f n V x).1=some W/\∀a,nS V a->nS W a
 |0,V,x,_=>⟨V,rfl,λ_ h=>h⟩
 |n+1,V,x,b=>by
  simp only[iE]at b⊢;generalize f V x=q at b⊢;obtain⟨q,y⟩:=q;simp only at b⊢;by_cases d:y.failed=true
  .simp only[d,bZ]at b;have:=b.f;rw[d]at this;cases this
  .simp only[d,cy]at b⊢;cases q with
   |none=>exact⟨V,rfl,λ_ h=>h⟩
   |some W=>
    obtain⟨U,e,g⟩:=FM n (jm V W) y b;exact⟨U,e,λa h=>g a h.Sd⟩
def FU{f:Int->VX->XS->RX}{F:Int->MS->Rs Unit}(d:∀i V x,my x (f i V x).2)(j:∀i m,df i->jC m->tm Bp jC vS (F i m))
  (k:∀i V x m,df i->jC m->nS V m.vars->om c (f i V x).2->tx (f i V x).1 (F i m)):∀(n:Nat) (i:Int) (V:VX) (x:XS) (m:MS),-9223372036854775808<=i->i+n<=9223372036854775807+1->jC m->nS V m.vars->om c (gG f n i V x).2->tx (gG f n i V x).1 (j7 F n i m)
 |0,i,V,x,m,_,_,_,g,_=>⟨V,rfl,g⟩
 |n+1,i,V,x,m,s,z,l,g,a=>by
  have o:df i:=⟨s,ae⟩;simp only[gG]at a⊢;simp only[j7];have b:=k i V x m o l g;have p:=j i m o l;have t:om c (f i V x).2:=by
   generalize f i V x=q at a⊢;obtain⟨q,y⟩:=q;cases q with
   |none=>exact a
   |some W=>exact a.le (we d n (i+1) W y)
  have b:=b t;cases e:F i m with
  |no A B v r=>rw[e]at b;exact b
  |ok u r=>
   rw[e]at b p;obtain⟨W,h,w⟩:=b;generalize f i V x=q at a h⊢;obtain⟨q,y⟩:=q;simp only at h;subst h;exact FU d j k n (i+1) W y r ae ae p.2 w a
def NP{f:VX->XS->RX}{F:Int->MS->Rs Unit}(g:∀V x,my x (f V x).2)(j:∀i m,df i->jC m->tm Bp jC vS (F i m))
  (l:∀i V x m,df i->jC m->nS V m.vars->om c (f V x).2->tx (f V x).1 (F i m)):∀(k n:Nat) (i:Int) (V:VX) (x:XS) (m:MS),k<=n->-9223372036854775808<=i->i+k<=9223372036854775807+1->jC m->nS V m.vars->om c (iE f n V x).2->tx (iE f n V x).1 (j7 F k i m)
 |0,n,i,V,x,m,_,_,_,_,h,a=>by
  obtain⟨W,o,b⟩:=FM n V x a;exact⟨W,o,b _ h⟩
 |k+1,0,i,V,x,m,w,_,_,_,_,_=>ae
 |k+1,n+1,i,V,x,m,w,z,o,p,h,a=>by
  have r:df i:=⟨z,ae⟩;have A:=a;simp only[iE]at a⊢;simp only[j7];have b:=l i V x m r p h;have s:=j i m r p;have t:om c (f V x).2:=by
   have D:=g V x;generalize f V x=q at a⊢;obtain⟨q,y⟩:=q;simp only at a⊢;split at a
   .exact a
   .cases q with
    |none=>exact a
    |some W=>exact a.le (w8 g n _ y)
  have b:=b t;have d:=t.f;generalize f V x=q at a b d⊢;obtain⟨q,y⟩:=q;simp only at a b d⊢;rw[an (by rw[d];decide)]at a
  rw[an (by rw[d];decide)]
  cases e:F i m with
  |no E G B v=>rw[e]at b;exact b
  |ok u v=>
   rw[e]at b s;obtain⟨W,rfl,C⟩:=b;exact NP g j l k n (i+1) (jm V W) y v ae ae ae s.2 C.Uo a
def SS{f g:XS->RX}{x:XS}{r:Rs Unit}(l:∀x,my x (g x).2)(a:om c (pf f g x).2)(h:(om c (f x).2->tx (f x).1 r)\/(∀y,om c (g y).2->tx (g y).1 r)):tx (pf f g x).1 r:=by
 unfold pf at a⊢;generalize f x=q at a h⊢;obtain⟨q,y⟩:=q;simp only at a h⊢;split at a
 .rename_i b;have:=a.f;rw[b]at this;cases this
 .rename_i b;rw[an b];have d:=l y;have j:(∀y,om c (g y).2->tx (g y).1 r)->om c (g y).2->tx (g y).1 r:=λh=>h y
  generalize g y=p at a j d⊢;obtain⟨p,z⟩:=p;simp only at a j d⊢;split at a
  .rename_i b;have:=a.f;rw[b]at this;cases this
  .rename_i b;rw[an b];have k:om c z:=by cases q<;>cases p<;>exact a
   have e:tx q r\/tx p r:=h.imp (λh=>h (k.le d)) (λh=>j h k);cases r with
   |no n s o m=>
    show n≠3
    rcases e with h|h<;>exact h
   |ok u m=>
    rcases e with⟨W,rfl,i⟩|⟨W,rfl,i⟩
    .cases p with
     |none=>exact⟨W,rfl,i⟩
     |some U=>exact⟨_,rfl,i.Sd⟩
    .cases q with
     |none=>exact⟨W,rfl,i⟩
     |some U=>exact⟨_,rfl,i.Uo⟩
def F0(e:c.all=false){k:bX}{a:AV}{y:XS}(f:∀w,a=some w->w=k/\KV k)(d:om c (kN a y).2){m:MS}{V:VX}(g:nS V m.vars)(v:bX):tx (pr (kN a y) V).1 (fe c k.s v m):=by
 cases a with
 |none=>have:=d.f;simp[kN]at this
 |some w=>
  obtain⟨rfl,_⟩:=f w rfl;unfold fe;by_cases b:lG w.s=true
  .simp only[kN,b,bZ,pr]at d⊢;have:w.s∈c.wr:=d.w _ (gM.2 (.inl rfl));simp only[e,gp.2 this,Bool.not_true,Bool.and_false,Bool.false_eq_true,cy];exact⟨V,rfl,g⟩
  .simp only[b,cy]
   show(2:Int)≠3
   decide
def Ln{a b max:Int}(e:df a)(f:df b)(i:0<=max)(j:max<=1048576)(h:oy a b max=true):lE a b max=true:=by
 simp only[oy,aO,iT,jW,cp,ug]at h;simp only[lE,aO,cp];refine⟨h.1,?_⟩;obtain⟨k,d⟩:=h;unfold df at e f;simp only[u64,Go.IntKind.wrap_u64];simp only[mh,ph,Go.IntKind.wrap_i64]at d;split at d
 .rename_i g;simp only[iT,aO,cp]at g;omega
 .simp only[not_true_eq_false,false_or]at d;omega
def PX{a b max:Int}(d:df a)(e:df b)(f:0<=max)(g:max<=1048576)(h:lE a b max=false):(b-a).toNat<=max.toNat:=by
 simp only[lE,Me,ug]at h;unfold df at d e;simp only[u64,Go.IntKind.wrap_u64]at h;omega
mutual
theorem US(F:c.all=false)(C:∀k,cQ (c.g k))(s:aX)(hs:s.ok)(hw:Tb s)(V:VX)(x:XS)(m:MS)(D:MI 2097152 1 16384 m)(H:nS V m.vars)(e:om c (mP s V x).2):tx (mP s V x).1 (cj c s m):=by
 cases s with
 |mk o name max a b f d g p=>
  simp only[aX.ok]at hs;obtain⟨_,_,xq,⟨ha,xa⟩,⟨hb,xb⟩,j,I⟩:=hs;simp only[Tb]at hw;obtain⟨⟨o1,o8⟩,R,wa,wb,t,J⟩:=hw;have l:∀{r:Option VX} {cd:Int} {m:MS},tx r (bB cd m):=λ{r cd m}=>by show(2:Int)≠3;decide
  simp only[mP]at e⊢;simp only[cj];by_cases e8:o=8
  .subst e8;simp only[bZ];exact l
  simp only[e8,cy]at e⊢;have A:my (dH a V x).2 (match dH a V x with
   |(none,x)=>((none,x):RX)
   |(some v,x)=>
     if o=1\/o=2 then(some (V.set name v),x)
     else if o=7 then(some V,x)
     else if o=4 then pr (kN v x) V
     else if o=5 then match v with
      |some u=>if u.n=1 then bp d V x else bp p V x
      |none=>pf (bp d V) (bp p V) x
     else match dH b V x with
      |(none,x)=>(none,x)
      |(some E,x)=>
        if o=3 then pr (kN v x) V
        else BP (λa V x=>bp d (V.set name a) x) max v E V x).2:=by
   have h:=C7 (.mk o name max a b f d g p) V x;generalize dH a V x=q;obtain⟨q,y⟩:=q;cases q with
   |none=>exact .refl _
   |some v=>
     simp only;split
     .exact .refl _
     .split
      · exact .refl _
      · split
        .exact s6 _ _
        .split
         .cases v with
          |some u=>simp only;split<;>exact dV _ V y
          |none=>exact FV (λx=>dV d V x) (λx=>dV p V x) y
         .have K:=nP b V y;generalize dH b V y=q at K;obtain⟨q,z⟩:=q;cases q with
          |none=>exact K
          |some E=>
           simp only;split
           .exact K.trans (s6 _ _)
           .exact K.trans (CX (λa V x=>dV d _ x) _ _ _ _ _)
  have hA:=zY F C a ha (wa e8) V x m ⟨D.rs,D.vs,D.os⟩ H (e.le A);clear A;have S:=oX C ha xa ae ae D;cases ea:cG c a m with
  |no st cd xd m'=>
   rw[ea]at hA;have G:st≠3:=hA;simp only[Rs.bind]
   (repeat' split)<;>first|exact G|exact absurd rfl e8|omega
  |ok v M=>
  rw[ea]at hA S;obtain⟨h1,av,K,T⟩:=hA;obtain⟨xe,B⟩:=S;have n:nS V M.vars:=by rw[h1];exact H
  generalize dH a V x=q at e K⊢;obtain⟨q,y⟩:=q;simp only at K;subst K;simp only[Rs.bind]at e⊢;by_cases e1:o=1\/o=2
  .rw[aq e1,aq e1];exact⟨_,rfl,n.set name T⟩
  rw[an e1]at e⊢;rw[an e1];by_cases e7:o=7
  .subst e7;simp only[bZ,show¬(7:Int)=3 by decide,show¬(7:Int)=4 by decide,show¬(7:Int)=5 by decide,show¬(7:Int)=6 by decide,cy];split
   · unfold nM;split
     .exact l
     .exact⟨V,rfl,n⟩
   · exact l
  rw[an e7]at e⊢;by_cases e4:o=4
  .subst e4;simp only[bZ,show¬(4:Int)=3 by decide,cy]at e⊢;split
   · exact F0 F T e n V0
   · exact l
  rw[an e4]at e⊢;by_cases e5:o=5
  .subst e5;simp only[bZ,show¬(5:Int)=3 by decide,show¬(5:Int)=4 by decide,cy]at e⊢;have N:=B.le (c':=0) (p':=0) (t':=16384) ae ae ae;by_cases k3:v.k=3
   · rw[aq k3];cases av with
     |some u=>
      obtain⟨rfl,_⟩:=T u rfl;simp only at e⊢;by_cases O:u.n=1
      · rw[aq O]at e⊢;rw[aq O];exact lV F C d j t V y M N n e
      · rw[an O]at e⊢;rw[an O];exact lV F C p I J V y M N n e
     |none=>
      simp only at e⊢;refine SS (λx=>dV p V x) e ?_;by_cases O:v.n=1
      · rw[aq O];exact .inl λh=>lV F C d j t V y M N n h
      · rw[an O];exact .inr λy h=>lV F C p I J V y M N n h
   · rw[an k3];exact l
  rw[an e5]at e⊢;have P:o=3\/o=6:=ae;have A:my (dH b V y).2 (match dH b V y with
      |(none,x)=>((none,x):RX)
      |(some E,x)=>
        if o=3 then pr (kN av x) V
        else BP (λa V x=>bp d (V.set name a) x) max av E V x).2:=by
   generalize dH b V y=q;obtain⟨q,z⟩:=q;cases q with
   |none=>exact .refl _
   |some E=>
     simp only;split
     .exact s6 _ _
     .exact CX (λa V x=>dV d _ x) _ _ _ _ _
  have hB:=zY F C b hb (wb P) V y M ⟨B.rs,B.vs,B.os⟩ n (e.le A);clear A;have U:=oX C hb xb ae ae B;cases eb:cG c b M with
  |no st cd xd m'=>
   rw[eb]at hB;have G:st≠3:=hB;rcases P with rfl|rfl
   · simp only[bZ,Rs.bind];exact G
   · simp only[bZ,show¬(6:Int)=3 by decide,show¬(6:Int)=4 by decide,show¬(6:Int)=5 by decide,cy,Rs.bind];exact G
  |ok E m2=>
  rw[eb]at hB U;obtain⟨k1,bv,k2,k3⟩:=hB;obtain⟨xf,xg⟩:=U;have Q:nS V m2.vars:=by rw[k1];exact n
  generalize dH b V y=q at e k2⊢;obtain⟨q,z⟩:=q;simp only at k2;subst k2;simp only at e⊢;rcases P with rfl|rfl
  .simp only[bZ,Rs.bind]at e⊢;split
   · exact F0 F T e Q E
   · exact l
  .obtain⟨x0,x1⟩:=R rfl;simp only[bZ,show¬(6:Int)=3 by decide,show¬(6:Int)=4 by decide,show¬(6:Int)=5 by decide,cy,Rs.bind]at e⊢;have ia:=xe.2.1;have ib:=xf.2.1;have N:=xg.le (c':=0) (p':=0) (t':=16384) ae ae ae;split
   · split
     .exact l
     .rename_i W;have W:lE v.n E.n max=false:=by simpa using W
      have X:∀i m,df i->jC m->tm Bp jC vS ((gW m).bind λ_ m=>bN c d (gk name (dt i) m)):=λi m3 L xi=>(sk xi).bind λ_ m4 _ xj=>mf c C d j _ (wj (xj.le ae ae ae) name (jA L))
      have Y:∀(i:Int) (a:AV) (V:VX) (x:XS) (m:MS),(∀w,a=some w->w=dt i/\KV (dt i))->df i->jC m->nS V m.vars->om c (bp d (V.set name a) x).2->tx (bp d (V.set name a) x).1 ((gW m).bind λ_ m=>bN c d (gk name (dt i) m)):=λi a V x m xk L D H e=>by
        have ht:=sk D;unfold gW at ht⊢;split at ht
        .rename_i hf;rw[aq hf];exact l
        .rename_i hf;rw[an hf];exact lV F C d j t _ x _ (wj (ht.2.le ae ae ae) name (jA L)) (H.set name xk) e
      have i1:=ia.1;have i2:v.n+((E.n-v.n).toNat:Int)<=9223372036854775807+1:=by have:=ia.2;have:=ib.2;omega
      have Z:om c (iE (λV x=>bp d (V.set name none) x) max.toNat V z).2->tx (iE (λV x=>bp d (V.set name none) x) max.toNat V z).1 (j7 (λi m=>(gW m).bind λ_ m=>bN c d (gk name (dt i) m)) (E.n-v.n).toNat v.n m2):=λe=>
        NP (λV x=>dV d _ x) X (λi V x m L D H e=>Y i none V x m (λw h=>by cases h) L D H e) _ _ _ V z m2 (PX ia ib x0 x1 W) i1 i2 N Q e
      cases av with
      |none=>exact Z e
      |some u=>
        cases bv with
        |none=>exact Z e
        |some w=>
         obtain⟨rfl,_⟩:=T u rfl;obtain⟨rfl,_⟩:=k3 w rfl;simp only[BP]at e⊢;split at e
         .rename_i ho;rw[Ln ia ib x0 x1 ho]at W;cases W
         .rename_i ho;rw[an ho];exact FU (λi V x=>dV d _ x) X (λi V x m L D H e=>Y i (some (dt i)) V x m (λw h=>by cases h;exact⟨rfl,uJ i,jA L⟩) L D H e) _ _ V z m2 i1 i2 N Q e
   · exact l
theorem lV(o:c.all=false)(g:∀k,cQ (c.g k))(l:List aX)(b:cD l)(h:Bb l)(V:VX)(x:XS)(m:MS)(w:jC m)(p:nS V m.vars)(a:om c (bp l V x).2):tx (bp l V x).1 (bN c l m):=by
 cases l with
 |nil=>simp only[bp,bN];exact⟨V,rfl,p⟩
 |cons s r=>
  simp only[cD]at b;simp only[Bb]at h;simp only[bp]at a⊢;simp only[bN];have d:=sk w;unfold gW at d⊢;split at d
  .rename_i i;rw[aq i];show(2:Int)≠3;decide
  .rename_i i;rw[an i];simp only[Rs.bind];have j:om c (mP s V x).2:=by
    generalize mP s V x=q at a⊢;obtain⟨q,y⟩:=q;cases q with
    |none=>exact a
    |some W=>exact a.le (dV r W y)
   have f:=US o g s b.1 h.1 V x _ d.2 p j;have t:=Gs c g s b.1 _ d.2;cases e:cj c s {m with steps:=m.steps+1}with
   |no B C z v=>rw[e]at f;exact f
   |ok u v=>
    rw[e]at f t;obtain⟨W,n,A⟩:=f;generalize mP s V x=q at a n⊢;obtain⟨q,y⟩:=q;simp only at n;subst n;exact lV o g r b.2 h.2 W y v t.2 A a
end
end
end
end Go.Dv.Tryz
