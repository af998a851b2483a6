/- Lemmas for the law of this claim. -/
import Derived.Test.YtcphhjkcgikdgaaGreatDoorP28
set_option linter.all false
set_option maxRecDepth 100000
set_option maxHeartbeats 8000000
namespace Go.Dv.Tryz
section
open Go Go.Dv
mutual
def aX.sz:aX->Nat
 | .mk _ _ _ _ _ _ a _ b=>1+dF a+dF b
def dF:List aX->Nat
 |[]=>0
 |s::r=>s.sz+dF r
end
def aX.zg(s:aX):1<=s.sz:=by cases s;simp only[aX.sz];omega
def da:∀l:List aX,l.length<=dF l
 |[]=>Nat.le_refl _
 |s::r=>by
  have:=da r;have:=s.zg;simp only[List.length_cons,dF];omega
def gO:∀{l:List aX} {s:aX},s∈l->s.sz<=dF l
 |x::r,s,h=>by
  simp only[dF];rcases List.mem_cons.1 h with rfl|h
  .omega
  .have:=gO h;omega
def aX.d:aX->List DV
 | .mk e name max a b f c g d=>bA e name max a b f c g d
def StS(T:Heap)(k:Kc)(s:aX):Prop:=∀(L:Heap) (a:Nat) (m:MS),hZ L T a->MI 2097152 1 16384 m->CS tb 118 [.ptr 7 0,.agg s.d] (L++mb T k m) a (cC L T k a Dh (cj k.cz s m))
def FW{T:Heap}(k:Kc)(F:EA k)(f:Bool)(l:List aX)(R:cD l)(N:l.length<=1099511627776)(S:∀s∈l,StS T k s):Ke T k f l:=by
 intro L X m h U;obtain⟨x,rfl⟩:=h.ex;have v:=h.lf k;have Y:=h.lz k;refine fZ (af:=XI) rfl rfl ?_;unfold XI;dsimp only[aj]
 (try simp(disch:=omega) only[go_sem,seval,reduceCtorEq,v.q,aU])
 refine bU (λj B=>∃(i:Nat) (e:MS),i+j=l.length/\jC e/\bN k.cz l m=bN k.cz (l.drop i) e/\
   B=⟨[(0,.ptr 7 0),(6,.p (.slice f (bD l))),(7,.p (.int .i64 l.length)),(8,.p (.int .i64 i))],L++mb T k e,x+12,[x+12,x+12]⟩) ?_ l.length _ ⟨0,m,ae,U,rfl,rfl⟩
 rintro j B ⟨i,e,Z,o,G,rfl⟩;refine bq NN.eq_1 ?_;rw[G];rcases cK i l.length with c|c
 .have O:l.drop i=l[i]::l.drop (i+1):=List.drop_eq_getElem_cons c;have w:(i:Int)<l.length:=ae;have H:(0:Int)<=i:=ae;have y:=kG l i c;have P:=S l[i] (List.getElem_mem c);have z:=fk R l[i] (List.getElem_mem c);rw[O];have I:∀q,bN k.cz (q::l.drop (i+1)) e=(gW e).bind λ_ m=>(cj k.cz q m).bind λ_ m=>bN k.cz (l.drop (i+1)) m:=λq=>by rw[bN]
  rw[I];generalize hq:l[i]=q at y P z O⊢;have n:=Gs k.cz F.g q z;obtain⟨J,name,max,a,b,K,d,g,p⟩:=q;simp only[aX.cs]at y;have C:=Ic k e (h.c1 (b:=.var false (bA J name max a b K d g p))) o.s0 o.s1;dsimp only[bA]at C;have r:=sk o;cases D:gW e with
  |no B V M E=>
   simp only[Rs.bind,cC];exact gD (dM v.q w H y @aU) trivial trivial (ff C D) k0
  |ok u E=>
   rw[D]at r;have t:=P _ _ E (h.c1 (b:=.var false (bA J name max a b K d g p))) r.2;simp only[aX.d,bA]at t
   replace n:=n E r.2
   cases A:cj k.cz (.mk J name max a b K d g p) E with
   |no B V M Q=>
    simp only[Rs.bind,A,cC];exact gD (dM v.q w H y @aU) trivial (bG C D) (ff t A) k0
   |ok u2 Q=>
    rw[A]at n;simp only[Rs.bind,A];refine gR (dM v.q w H y @aU) trivial (bf (bG C D) (bG t A)) (k1 ?_);exact LI.next (m':=j-1) ae ⟨i+1,Q,ae,n.2,rfl,rfl⟩
 .have w:¬(i:Int)<l.length:=ae;have W:bN k.cz (l.drop i) e=.ok () e:=by rw[List.drop_eq_nil_of_le c,bN]
  rw[W];simp only[cC];exact gN (bf v.q w) k0
def FC(f:VM)(k:ByteArray)(n:Int):fF (mX f) k (some (.agg [.int .i64 1,.int .i64 n,.str ⟨#[]⟩]))=mX (l8 f k (dt n)):=nC f k (dt n)
def TA{T:Heap}(k:Kc)(r:EA k)(name:ByteArray)(max:Int)(a b:aF)(f:Bool)(l:List aX)(g:Bool)(n:List aX)(X:a.ok/\a.sz<=iq)(Y:b.ok/\b.sz<=iq)(x1:cD l)(C:Ke T k f l):Xy T k name max a b f l g n:=by
 intro L nx m h hm;obtain⟨x,rfl⟩:=h.ex;have s:=h.lf k;have I:=h.lz k;have o:=Ht (k:=k) r X.1 X.2 hm ae (h.c1 (b:=.var false (bA 6 name max a b f l g n)));dsimp only[bA]at o;have O:=oX (c:=k.cz) r.g X.1 X.2 ae ae hm;have e0:cj k.cz (.mk 6 name max a b f l g n) m=(cG k.cz a m).bind λx m=>(cG k.cz b m).bind λy m=>if x.k=1/\y.k=1 then
    (if lE x.n y.n max then bB 1005 m else j7 (λi m=>(gW m).bind λ_ m=>bN k.cz l (gk name (dt i) m)) (y.n-x.n).toNat x.n m)else bB 1009 m:=by rw[cj];simp
 rw[e0];refine fZ (af:=T3) rfl rfl ?_;unfold T3;dsimp only[aj,bA];cases B:cG k.cz a m with
 |no J cd D m1=>
  simp only[Rs.bind,cC];exact gD s.q trivial trivial (ff o B) k0
 |ok v m1=>
 rw[B]at O;obtain⟨hv,t⟩:=O
 replace t:MI 1048576 1 16384 m1:=t.le ae ae ae
 have p:=Ht (k:=k) r Y.1 Y.2 t ae (h.c2 (b:=.var false (bA 6 name max a b f l g n)) (c:=.var false [.p (.int .i64 v.k),.p (.int .i64 v.n),.p (.str v.s)]));dsimp only[bA]at p;have P:=oX (c:=k.cz) r.g Y.1 Y.2 ae ae t;cases A:cG k.cz b m1 with
 |no J cd D K=>
  simp only[Rs.bind,A,cC];exact gD s.q trivial (bG o B) (ff p A) k0
 |ok w K=>
 rw[A]at P;obtain⟨hw,x4⟩:=P;simp only[Rs.bind,A];by_cases E:v.k=1
 case neg=>
  rw[an (λe=>E e.1)];simp only[bB,cC];exact gD (bf s.q E) trivial (bf (bG o B) (bG p A)) (λ{z}=>@bu.d3 _ _ _ (I z) λk=>b8 k) k0
 by_cases M:w.k=1
 case neg=>
  rw[an (λe=>M e.2)];simp only[bB,cC];exact gD (c9 s.q (aZ E) M) trivial (bf (bG o B) (bG p A)) (λ{z}=>@bu.d3 _ _ _ (I z) λk=>b8 k) k0
 rw[aq ⟨E,M⟩];by_cases F:lE v.n w.n max=true
 .rw[aq F];simp only[lE,aO,cp]at F;simp only[bB,cC];exact gD (dM s.q (aZ E) (aZ M) F.1 F.2) trivial (c9 (bG o B) (bG p A) (λ{z}=>@bu.d3 _ _ _ (I z) λk=>aK k)) (λ{z}=>@bu.d3 _ _ _ (I z) λk=>gu 1005 k) k0
 rw[an F];have x5:jC K:=x4.le ae ae ae;have w1:=hw.2.1;have v1:=hv.2.1;simp only[df]at w1 v1;have lp:W tb (.loop BT) ⟨[(0,.ptr 7 0),(3,.ptr (x+12) 0),(5,.ptr (x+14) 0),(6,.p (.int .i64 v.n))],(x+14,.var false [.p (.int .i64 w.k),.p (.int .i64 w.n),.p (.str w.s)])::(x+13,.var false [.p (.int .i64 v.k),.p (.int .i64 v.n),.p (.str v.s)])::(x+12,.var false (bA 6 name max a b f l g n))::(L++mb T k K),x+15,[x+15,x+12]⟩
   (BK 0 (Fin [] (x+12) (cC L T k (x+12) Dh (j7 (λi m=>(gW m).bind λ_ m=>bN k.cz l (gk name (dt i) m)) (w.n-v.n).toNat v.n K)))):=by
  refine bU (λj J=>∃(i:Int) (N:MS),(w.n-i).toNat=j/\v.n<=i/\jC N/\j7 (λi m=>(gW m).bind λ_ m=>bN k.cz l (gk name (dt i) m)) (w.n-v.n).toNat v.n K=j7 (λi m=>(gW m).bind λ_ m=>bN k.cz l (gk name (dt i) m)) (w.n-i).toNat i N/\
    J=⟨[(0,.ptr 7 0),(3,.ptr (x+12) 0),(5,.ptr (x+14) 0),(6,.p (.int .i64 i))],(x+14,.var false [.p (.int .i64 w.k),.p (.int .i64 w.n),.p (.str w.s)])::(x+13,.var false [.p (.int .i64 v.k),.p (.int .i64 v.n),.p (.str v.s)])::(x+12,.var false (bA 6 name max a b f l g n))::(L++mb T k N),x+15,[x+15,x+12]⟩) ?_ (w.n-v.n).toNat _ ⟨v.n,K,rfl,Int.le_refl _,x5,rfl,rfl⟩
  rintro j J ⟨i,N,hj,xi,G,x6,rfl⟩;refine bq BT.eq_1 ?_;rw[x6];by_cases c:i<w.n
  .have hn:(w.n-i).toNat=(w.n-(i+1)).toNat+1:=ae;rw[hn,j7];have Z:=Ic k N (h.c3 (b:=.var false (bA 6 name max a b f l g n)) (c:=.var false [.p (.int .i64 v.k),.p (.int .i64 v.n),.p (.str v.s)]) (d:=.var false [.p (.int .i64 w.k),.p (.int .i64 w.n),.p (.str w.s)])) G.s0 G.s1;dsimp only[bA]at Z;have Q:=sk G;cases et:gW N with
   |no J cd D q=>
    simp only[Rs.bind,cC];exact gD (bf s.q c) trivial trivial (ff Z et) k0
   |ok u q=>
    rw[et]at Q;have R:jC (gk name (dt i) q):=wj (Q.2.le ae ae ae) name (jA ⟨ae,ae⟩);have S:aH (L++mb T k q) 5 (.map false (.strs (if(q.vars name).isSome then q.vn else q.vn+1) (mX (l8 q.vars name (dt i)))))=L++mb T k (gk name (dt i) q):=by rw[h.s _ 5 ae];rfl
    have ei:(mX q.vars name).isSome=(q.vars name).isSome:=by simp[mX]
    have H:=C _ _ (gk name (dt i) q) (h.c3 (b:=.var false (bA 6 name max a b f l g n)) (c:=.var false [.p (.int .i64 v.k),.p (.int .i64 v.n),.p (.str v.s)]) (d:=.var false [.p (.int .i64 w.k),.p (.int .i64 w.n),.p (.str w.s)])) R;dsimp only[bA]at H;have U:=mf k.cz r.g l x1 _ R;cases V:bN k.cz l (gk name (dt i) q)with
    |no J cd D m4=>
     simp only[Rs.bind,V,cC];exact gD (dM s.q c S ei @FC) trivial (bG Z et) (ff H V) k0
    |ok u4 m4=>
     rw[V]at U;simp only[Rs.bind,V];refine gR (dM s.q c S ei @FC) trivial (bf (bG Z et) (bG H V)) (k1 ?_);exact LI.next (m':=(w.n-(i+1)).toNat) ae ⟨i+1,m4,rfl,ae,U.2,rfl,rfl⟩
  .have hn:(w.n-i).toNat=0:=ae;rw[hn,j7];simp only[cC];exact gN (bf s.q c) k0
 simp only[lE,aO,cp,not_and]at F;by_cases c1:v.n<w.n
 .have c2:=F c1;refine gR (dM s.q (aZ E) (aZ M) c1 c2) trivial (c9 (bG o B) (bG p A) (λ{z}=>@bu.d3 _ _ _ (I z) λk=>aK k)) (k1 ?_);exact lp
 .refine gR (eY s.q (aZ E) (aZ M) c1) trivial (c9 (bG o B) (bG p A) (λ{z}=>@bu.d3 _ _ _ (I z) λk=>aK k)) (k1 ?_);exact lp
def JF{T:Heap}(k:Kc)(d:EA k):∀(n:Nat),n<=1099511627776->∀s:aX,s.sz<=n->s.ok->StS T k s
 |0,_,s,t,_=>by have:=s.zg;omega
 |n+1,B,.mk x name max a b f c g i,t,o=>by
  have y:=o;simp only[aX.ok]at o;obtain⟨_,_,_,u,v,j,p⟩:=o;simp only[aX.sz]at t;have q:∀(r:Bool) (l:List aX),dF l<=n->cD l->Ke T k r l:=λr l z w=>
   FW k d r l w (by have:=da l;omega) λs o=>JF k d n ae s (dL (gO o) z) (fk w s o)
  intro L C m h A;exact RM k d x name max a b f c g i u v (q f c ae j) (q g i ae p) (λe=>TA k d name max a b f c g i u v j (q f c ae j)) m h A
end
end Go.Dv.Tryz
