/- Lemmas for the law of this claim. -/
import Derived.Test.YtcphhjkcgikdgaaGreatDoorP28
set_option linter.all false
set_option maxRecDepth 100000
set_option maxHeartbeats 8000000
namespace Go.Dv.Tryz
section
open Go Go.Dv
mutual
def cl.sz:cl->Nat
 | .mk _ _ _ _ _ _ a _ b=>1+eZ a+eZ b
def eZ:List cl->Nat
 |[]=>0
 |s::r=>s.sz+eZ r
end
def cl.B9(s:cl):1<=s.sz:=by cases s;simp only[cl.sz];omega
def eu:∀l:List cl,l.length<=eZ l
 |[]=>Nat.le_refl _
 |s::r=>by
  have:=eu r;have:=s.B9;simp only[List.length_cons,eZ];omega
def j6:∀{l:List cl} {s:cl},s∈l->s.sz<=eZ l
 |x::r,s,h=>by
  simp only[eZ];rcases List.mem_cons.1 h with rfl|h
  .omega
  .have:=j6 h;omega
def cl.d:cl->List DV
 | .mk e name max a b f c g d=>dR e name max a b f c g d
def StS(T:Heap)(k:Kc)(s:cl):Prop:=∀(L:Heap) (a:Nat) (m:MS),je L T a->MI 2097152 1 16384 m->CS tb 118 [.ptr 6 0,.agg s.d] (L++mb T k m) a (cM L T k a CQ (cC k.cz s m))
def Ge{T:Heap}(k:Kc)(F:Ht k)(f:Bool)(l:List cl)(R:dU l)(N:l.length<=1099511627776)(S:∀s∈l,StS T k s):LC T k f l:=by
 intro L X m h U;obtain⟨x,rfl⟩:=h.ex;have v:=h.lf k;have Y:=h.ml k;refine hZ (af:=Yp) rfl rfl ?_;unfold Yp;dsimp only[ai]
 (try simp(disch:=omega) only[go_sem,seval,reduceCtorEq,v.q,cG])
 refine bL (λj B=>∃(i:Nat) (e:MS),i+j=l.length/\pN e/\cJ k.cz l m=cJ k.cz (l.drop i) e/\
   B=⟨[(0,.ptr 6 0),(6,.p (.slice f (cU l))),(7,.p (.int .i64 l.length)),(8,.p (.int .i64 i))],L++mb T k e,x+11,[x+11,x+11]⟩) ?_ l.length _ ⟨0,m,ae,U,rfl,rfl⟩
 rintro j B ⟨i,e,Z,o,G,rfl⟩;refine aH NZ.eq_1 ?_;rw[G];rcases bS i l.length with c|c
 .have O:l.drop i=l[i]::l.drop (i+1):=List.drop_eq_getElem_cons c;have w:(i:Int)<l.length:=ae;have H:(0:Int)<=i:=ae;have y:=mG l i c;have P:=S l[i] (List.getElem_mem c);have z:=jC R l[i] (List.getElem_mem c);rw[O];have I:∀q,cJ k.cz (q::l.drop (i+1)) e=(lN e).bind λ_ m=>(cC k.cz q m).bind λ_ m=>cJ k.cz (l.drop (i+1)) m:=λq=>by rw[cJ]
  rw[I];generalize hq:l[i]=q at y P z O⊢;have n:=Oc k.cz F.g q z;obtain⟨J,name,max,a,b,K,d,g,p⟩:=q;simp only[cl.cs]at y;have C:=J3 k e (h.c1 (b:=.var false (dR J name max a b K d g p))) o.s0 o.s1;dsimp only[dR]at C;have r:=B5 o;cases D:lN e with
  |no B V M E=>
   simp only[Rs.bind,cM];exact gD (dP v.q w H y @cG) trivial trivial (fH C D) k0
  |ok u E=>
   rw[D]at r;have t:=P _ _ E (h.c1 (b:=.var false (dR J name max a b K d g p))) r.2;simp only[cl.d,dR]at t
   replace n:=n E r.2
   cases A:cC k.cz (.mk J name max a b K d g p) E with
   |no B V M Q=>
    simp only[Rs.bind,A,cM];exact gD (dP v.q w H y @cG) trivial (bF C D) (fH t A) k0
   |ok u2 Q=>
    rw[A]at n;simp only[Rs.bind,A];refine gR (dP v.q w H y @cG) trivial (bA (bF C D) (bF t A)) (k1 ?_);exact LI.next (m':=j-1) ae ⟨i+1,Q,ae,n.2,rfl,rfl⟩
 .have w:¬(i:Int)<l.length:=ae;have W:cJ k.cz (l.drop i) e=.ok () e:=by rw[List.drop_eq_nil_of_le c,cJ]
  rw[W];simp only[cM];exact gN (bA v.q w) k0
def F0(f:VM)(k:ByteArray)(n:Int):kn (nY f) k (some (.agg [.int .i64 1,.int .i64 n,.str ⟨#[]⟩]))=nY (pP f k (j1 n)):=pH f k (j1 n)
def R7{T:Heap}(k:Kc)(r:Ht k)(name:ByteArray)(max:Int)(a b:bj)(f:Bool)(l:List cl)(g:Bool)(n:List cl)(X:a.ok/\a.sz<=jL)(Y:b.ok/\b.sz<=jL)(x1:dU l)(C:LC T k f l):XF T k name max a b f l g n:=by
 intro L nx m h hm;obtain⟨x,rfl⟩:=h.ex;have s:=h.lf k;have I:=h.ml k;have o:=GD (k:=k) r X.1 X.2 hm ae (h.c1 (b:=.var false (dR 6 name max a b f l g n)));dsimp only[dR]at o;have O:=tf (c:=k.cz) r.g X.1 X.2 ae ae hm;have e0:cC k.cz (.mk 6 name max a b f l g n) m=(eO k.cz a m).bind λx m=>(eO k.cz b m).bind λy m=>if x.k=1/\y.k=1 then
    (if uF x.n y.n max then b9 1005 m else pV (λi m=>(lN m).bind λ_ m=>cJ k.cz l (lY name (j1 i) m)) (y.n-x.n).toNat x.n m)else b9 1009 m:=by rw[cC];simp
 rw[e0];refine hZ (af:=TJ) rfl rfl ?_;unfold TJ;dsimp only[ai,dR];cases B:eO k.cz a m with
 |no J cd D m1=>
  simp only[Rs.bind,cM];exact gD s.q trivial trivial (fH o B) k0
 |ok v m1=>
 rw[B]at O;obtain⟨hv,t⟩:=O
 replace t:MI 1048576 1 16384 m1:=t.le ae ae ae
 have p:=GD (k:=k) r Y.1 Y.2 t ae (h.c2 (b:=.var false (dR 6 name max a b f l g n)) (c:=.var false [.p (.int .i64 v.k),.p (.int .i64 v.n),.p (.str v.s)]));dsimp only[dR]at p;have P:=tf (c:=k.cz) r.g Y.1 Y.2 ae ae t;cases A:eO k.cz b m1 with
 |no J cd D K=>
  simp only[Rs.bind,A,cM];exact gD s.q trivial (bF o B) (fH p A) k0
 |ok w K=>
 rw[A]at P;obtain⟨hw,x4⟩:=P;simp only[Rs.bind,A];by_cases E:v.k=1
 case neg=>
  rw[ak (λe=>E e.1)];simp only[b9,cM];exact gD (bA s.q E) trivial (bA (bF o B) (bF p A)) (λ{z}=>@bn.d3 _ _ _ (I z) λk=>cq k) k0
 by_cases M:w.k=1
 case neg=>
  rw[ak (λe=>M e.2)];simp only[b9,cM];exact gD (dS s.q (bU E) M) trivial (bA (bF o B) (bF p A)) (λ{z}=>@bn.d3 _ _ _ (I z) λk=>cq k) k0
 rw[aq ⟨E,M⟩];by_cases F:uF v.n w.n max=true
 .rw[aq F];simp only[uF,aL,df]at F;simp only[b9,cM];exact gD (dP s.q (bU E) (bU M) F.1 F.2) trivial (dS (bF o B) (bF p A) (λ{z}=>@bn.d3 _ _ _ (I z) λk=>aM k)) (λ{z}=>@bn.d3 _ _ _ (I z) λk=>gL 1005 k) k0
 rw[ak F];have x5:pN K:=x4.le ae ae ae;have w1:=hw.2.1;have v1:=hv.2.1;simp only[fA]at w1 v1;have lp:W tb (.loop DM) ⟨[(0,.ptr 6 0),(3,.ptr (x+11) 0),(5,.ptr (x+13) 0),(6,.p (.int .i64 v.n))],(x+13,.var false [.p (.int .i64 w.k),.p (.int .i64 w.n),.p (.str w.s)])::(x+12,.var false [.p (.int .i64 v.k),.p (.int .i64 v.n),.p (.str v.s)])::(x+11,.var false (dR 6 name max a b f l g n))::(L++mb T k K),x+14,[x+14,x+11]⟩
   (BK 0 (Fin [] (x+11) (cM L T k (x+11) CQ (pV (λi m=>(lN m).bind λ_ m=>cJ k.cz l (lY name (j1 i) m)) (w.n-v.n).toNat v.n K)))):=by
  refine bL (λj J=>∃(i:Int) (N:MS),(w.n-i).toNat=j/\v.n<=i/\pN N/\pV (λi m=>(lN m).bind λ_ m=>cJ k.cz l (lY name (j1 i) m)) (w.n-v.n).toNat v.n K=pV (λi m=>(lN m).bind λ_ m=>cJ k.cz l (lY name (j1 i) m)) (w.n-i).toNat i N/\
    J=⟨[(0,.ptr 6 0),(3,.ptr (x+11) 0),(5,.ptr (x+13) 0),(6,.p (.int .i64 i))],(x+13,.var false [.p (.int .i64 w.k),.p (.int .i64 w.n),.p (.str w.s)])::(x+12,.var false [.p (.int .i64 v.k),.p (.int .i64 v.n),.p (.str v.s)])::(x+11,.var false (dR 6 name max a b f l g n))::(L++mb T k N),x+14,[x+14,x+11]⟩) ?_ (w.n-v.n).toNat _ ⟨v.n,K,rfl,Int.le_refl _,x5,rfl,rfl⟩
  rintro j J ⟨i,N,hj,xi,G,x6,rfl⟩;refine aH DM.eq_1 ?_;rw[x6];by_cases c:i<w.n
  .have hn:(w.n-i).toNat=(w.n-(i+1)).toNat+1:=ae;rw[hn,pV];have Z:=J3 k N (h.c3 (b:=.var false (dR 6 name max a b f l g n)) (c:=.var false [.p (.int .i64 v.k),.p (.int .i64 v.n),.p (.str v.s)]) (d:=.var false [.p (.int .i64 w.k),.p (.int .i64 w.n),.p (.str w.s)])) G.s0 G.s1;dsimp only[dR]at Z;have Q:=B5 G;cases et:lN N with
   |no J cd D q=>
    simp only[Rs.bind,cM];exact gD (bA s.q c) trivial trivial (fH Z et) k0
   |ok u q=>
    rw[et]at Q;have R:pN (lY name (j1 i) q):=GW (Q.2.le ae ae ae) name (rT ⟨ae,ae⟩);have S:aC (L++mb T k q) 4 (.map false (.strs (if(q.vars name).isSome then q.vn else q.vn+1) (nY (pP q.vars name (j1 i)))))=L++mb T k (lY name (j1 i) q):=by rw[h.s _ 4 ae];rfl
    have ei:(nY q.vars name).isSome=(q.vars name).isSome:=by simp[nY]
    have H:=C _ _ (lY name (j1 i) q) (h.c3 (b:=.var false (dR 6 name max a b f l g n)) (c:=.var false [.p (.int .i64 v.k),.p (.int .i64 v.n),.p (.str v.s)]) (d:=.var false [.p (.int .i64 w.k),.p (.int .i64 w.n),.p (.str w.s)])) R;dsimp only[dR]at H;have U:=ob k.cz r.g l x1 _ R;cases V:cJ k.cz l (lY name (j1 i) q)with
    |no J cd D m4=>
     simp only[Rs.bind,V,cM];exact gD (dP s.q c S ei @F0) trivial (bF Z et) (fH H V) k0
    |ok u4 m4=>
     rw[V]at U;simp only[Rs.bind,V];refine gR (dP s.q c S ei @F0) trivial (bA (bF Z et) (bF H V)) (k1 ?_);exact LI.next (m':=(w.n-(i+1)).toNat) ae ⟨i+1,m4,rfl,ae,U.2,rfl,rfl⟩
  .have hn:(w.n-i).toNat=0:=ae;rw[hn,pV];simp only[cM];exact gN (bA s.q c) k0
 simp only[uF,aL,df,not_and]at F;by_cases c1:v.n<w.n
 .have c2:=F c1;refine gR (dP s.q (bU E) (bU M) c1 c2) trivial (dS (bF o B) (bF p A) (λ{z}=>@bn.d3 _ _ _ (I z) λk=>aM k)) (k1 ?_);exact lp
 .refine gR (fW s.q (bU E) (bU M) c1) trivial (dS (bF o B) (bF p A) (λ{z}=>@bn.d3 _ _ _ (I z) λk=>aM k)) (k1 ?_);exact lp
def ID{T:Heap}(k:Kc)(d:Ht k):∀(n:Nat),n<=1099511627776->∀s:cl,s.sz<=n->s.ok->StS T k s
 |0,_,s,t,_=>by have:=s.B9;omega
 |n+1,B,.mk x name max a b f c g i,t,o=>by
  have y:=o;simp only[cl.ok]at o;obtain⟨_,_,_,u,v,j,p⟩:=o;simp only[cl.sz]at t;have q:∀(r:Bool) (l:List cl),eZ l<=n->dU l->LC T k r l:=λr l z w=>
   Ge k d r l w (by have:=eu l;omega) λs o=>ID k d n ae s (ep (j6 o) z) (jC w s o)
  intro L C m h A;exact Uh k d x name max a b f c g i u v (q f c ae j) (q g i ae p) (λe=>R7 k d name max a b f c g i u v j (q f c ae j)) m h A
end
end Go.Dv.Tryz
