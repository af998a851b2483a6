/- Lemmas for the law of this claim. -/
import Derived.Test.YtcphhjkcgikdgaaGreatDoorP27
set_option linter.all false
set_option maxRecDepth 100000
set_option maxHeartbeats 16000000
namespace Go.Dv.Tryz
section
open Go Go.Dv
abbrev bA(e:Int)(name:ByteArray)(max:Int)(a b:aF)(f:Bool)(c:List aX)(g:Bool)(d:List aX):List DV:=[.p (.int .i64 e),.p (.str name),.p (.int .i64 max),.p (.int .i64 a.op),.p (.int .i64 a.n),.p (.str a.s),.p (.slice a.f (aJ a.xs)),.p (.int .i64 b.op),.p (.int .i64 b.n),.p (.str b.s),.p (.slice b.f (aJ b.xs)),.p (.slice f (bD c)),.p (.slice g (bD d))]
def Ke(T:Heap)(k:Kc)(f:Bool)(l:List aX):Prop:=∀(L:Heap) (nx:Nat) (m:MS),hZ L T nx->jC m->CS tb 88 [.ptr 7 0,.p (.slice f (bD l))] (L++mb T k m) nx (cC L T k nx Dh (bN k.cz l m))
def Xy(T:Heap)(k:Kc)(name:ByteArray)(max:Int)(a b:aF)(f:Bool)(c:List aX)(g:Bool)(d:List aX):Prop:=∀(L:Heap) (nx:Nat) (m:MS),hZ L T nx->MI 2097152 1 16384 m->CS tb 140 [.ptr 7 0,.agg (bA 6 name max a b f c g d)] (L++mb T k m) nx (cC L T k nx Dh (cj k.cz (.mk 6 name max a b f c g d) m))
section
variable{L T:Heap}{nx:Nat}
def MI.len{c p t:Int}{m:MS}(h:MI c p t m)(a:0<=c)(b:t<=16385):m.reads.length<=34362884096:=by
 have d:=h.rl;have e:=h.s1;omega
def MI.NG{c p t:Int}{m:MS}(h:MI c p t m)(a:0<=p)(b:t<=16385):m.cm.length<=16385:=by
 have d:=h.pl;have e:=h.s1;omega
def Ht{T:Heap}{k:Kc}(b:EA k){e:aF}(d:e.ok)(f:e.sz<=iq){c p:Int}{m:MS}(a:MI c p 16384 m)(g:0<=c){L:Heap}{nx:Nat}(h:hZ L T nx):
  CS tb 137 [.ptr 7 0,.agg [.p (.int .i64 e.op),.p (.int .i64 e.n),.p (.str e.s),.p (.slice e.f (aJ e.xs))]] (L++mb T k m) nx (cC L T k nx fX (cG k.cz e m)):=
 DX k b e.sz e (Nat.le_refl _) L nx m d h a.rs (by have:=a.len g ae;simp only[iq]at f;omega) a.vs a.os
def gz{P q:Prop}(k:q)(h:Bx q->P:=by
 intro k;refine fZ (af:=U1) rfl rfl ?_;unfold U1;dsimp only[aj,bA];exact k.q):P:=h ⟨k⟩
def RM(k:Kc)(I:EA k)(y:Int)(name:ByteArray)(max:Int)(a b:aF)(f:Bool)(e:List aX)(g:Bool)(i:List aX)(ha:a.ok/\a.sz<=iq)(hb:b.ok/\b.sz<=iq)(N:Ke T k f e)(Z:Ke T k g i)(K:y=6->Xy T k name max a b f e g i)
  (m:MS)(h:hZ L T nx)(hm:MI 2097152 1 16384 m):CS tb 118 [.ptr 7 0,.agg (bA y name max a b f e g i)] (L++mb T k m) nx (cC L T k nx Dh (cj k.cz (.mk y name max a b f e g i) m)):=by
 obtain⟨x,rfl⟩:=h.ex;have o:=h.lf k;have B:=h.lz k;have j:=Ht (k:=k) I ha.1 ha.2 hm ae (h.c1 (b:=.var false (bA y name max a b f e g i)));dsimp only[bA]at j;have x0:=oX (c:=k.cz) I.g ha.1 ha.2 ae ae hm;cases l:cG k.cz a m with
 |no A c n q=>
  by_cases O:y=1
  .subst O;have em:cj k.cz (.mk 1 name max a b f e g i) m=.no A c n q:=by rw[cj];simp[l,Rs.bind]
   rw[em];simp only[cC];refine gz ?_;exact gD o.q trivial trivial (ff j l) k0
  by_cases P:y=2
  .subst P;have em:cj k.cz (.mk 2 name max a b f e g i) m=.no A c n q:=by rw[cj];simp[l,Rs.bind]
   rw[em];simp only[cC];refine gz ?_;exact gD o.q trivial trivial (ff j l) k0
  by_cases Q:y=3
  .subst Q;have em:cj k.cz (.mk 3 name max a b f e g i) m=.no A c n q:=by rw[cj];simp[l,Rs.bind]
   rw[em];simp only[cC];refine gz ?_;exact gD o.q trivial trivial (ff j l) k0
  by_cases R:y=4
  .subst R;have em:cj k.cz (.mk 4 name max a b f e g i) m=.no A c n q:=by rw[cj];simp[l,Rs.bind]
   rw[em];simp only[cC];refine gz ?_;exact gD o.q trivial trivial (ff j l) k0
  by_cases S:y=5
  .subst S;have em:cj k.cz (.mk 5 name max a b f e g i) m=.no A c n q:=by rw[cj];simp[l,Rs.bind]
   rw[em];simp only[cC];refine gz ?_;exact gD o.q trivial trivial (ff j l) k0
  by_cases U:y=7
  .subst U;have em:cj k.cz (.mk 7 name max a b f e g i) m=.no A c n q:=by rw[cj];simp[l,Rs.bind]
   rw[em];simp only[cC];refine gz ?_;exact gD o.q trivial trivial (ff j l) k0
  by_cases V:y=6
  .subst V;have W:=K rfl _ _ m (h.c1 (b:=.var false (bA 6 name max a b f e g i))) hm;dsimp only[bA]at W;cases e6:cj k.cz (.mk 6 name max a b f e g i) m with
   |no x9 c6 x2 m6=>
    simp only[cC];refine gz ?_;exact gD o.q trivial trivial (ff W e6) k0
   |ok u6 m6=>
    simp only[cC];refine gz ?_;exact gR o.q trivial (bG W e6) k0
  by_cases X:y=8
  .subst X;have em:cj k.cz (.mk 8 name max a b f e g i) m=.no 2 max E m:=by rw[cj];simp[bB]
   rw[em];simp only[cC];refine gz ?_;exact gD o.q trivial trivial (λ{z}=>@bu.d1 _ _ _ (B z) λk=>gu max k) k0
  .skip
   have em:cj k.cz (.mk y name max a b f e g i) m=.ok () m:=by rw[cj];simp[O,P,Q,R,S,U,V,X]
   rw[em];simp only[cC];refine gz ?_;exact gN (ow o.q O P Q R S U V X) k0
 |ok v q=>
  rw[l]at x0;obtain⟨hv,C⟩:=x0
  replace C:MI 1048576 1 16384 q:=C.le ae ae ae
  have x3:aH (L++mb T k q) 5 (.map false (.strs (if(q.vars name).isSome then q.vn else q.vn+1) (mX (l8 q.vars name v))))=L++mb T k (gk name v q):=by rw[h.s _ 5 ae];rfl
  have ei:(mX q.vars name).isSome=(q.vars name).isSome:=by simp[mX]
  by_cases O:y=1
  .subst O;have em:cj k.cz (.mk 1 name max a b f e g i) m=.ok () (gk name v q):=by rw[cj];simp[l,Rs.bind]
   rw[em];simp only[cC];refine gz ?_;exact gR (eY o.q x3 ei @nC) trivial (bG j l) k0
  by_cases P:y=2
  .subst P;have em:cj k.cz (.mk 2 name max a b f e g i) m=.ok () (gk name v q):=by rw[cj];simp[l,Rs.bind]
   rw[em];simp only[cC];refine gz ?_;exact gR (eY o.q x3 ei @nC) trivial (bG j l) k0
  by_cases Q:y=3
  .subst Q;have F:=Ht (k:=k) I hb.1 hb.2 C ae (h.c2 (b:=.var false (bA 3 name max a b f e g i)) (c:=.var false [.p (.int .i64 v.k),.p (.int .i64 v.n),.p (.str v.s)]));dsimp only[bA]at F;have x4:=oX (c:=k.cz) I.g hb.1 hb.2 ae ae C;cases G:cG k.cz b q with
   |no A c n Y=>
    have em:cj k.cz (.mk 3 name max a b f e g i) m=.no A c n Y:=by rw[cj];simp[l,Rs.bind,G]
    rw[em];simp only[cC];refine gz ?_;exact gD o.q trivial (bG j l) (ff F G) k0
   |ok w Y=>
    rw[G]at x4;obtain⟨hw,x5⟩:=x4;have D:=FD k Y v.s w (h.c3 (b:=.var false (bA 3 name max a b f e g i)) (c:=.var false [.p (.int .i64 v.k),.p (.int .i64 v.n),.p (.str v.s)]) (d:=.var false [.p (.int .i64 w.k),.p (.int .i64 w.n),.p (.str w.s)])) x5.ps (by have:=x5.NG ae ae;omega) I.wr;dsimp only[bA]at D;by_cases r:v.k=2
    .by_cases t:w.k=1
     .cases p:fe k.cz v.s w Y with
      |no A c n s=>
       have em:cj k.cz (.mk 3 name max a b f e g i) m=.no A c n s:=by rw[cj];simp[l,Rs.bind,G,r,t,p]
       rw[em];simp only[cC];refine gz ?_;exact gD (c9 o.q (aZ r) (aZ t)) trivial (c9 (bG j l) (bG F G) (λ{z}=>@bu.d3 _ _ _ (B z) λk=>aK k)) (ff D p) k0
      |ok u s=>
       have em:cj k.cz (.mk 3 name max a b f e g i) m=.ok () s:=by rw[cj];simp[l,Rs.bind,G,r,t,p]
       rw[em];simp only[cC];refine gz ?_;exact gR (c9 o.q (aZ r) (aZ t)) trivial (eY (bG j l) (bG F G) (λ{z}=>@bu.d3 _ _ _ (B z) λk=>aK k) (bG D p)) k0
     by_cases J:w.k=2
     .cases p:fe k.cz v.s w Y with
      |no A c n s=>
       have em:cj k.cz (.mk 3 name max a b f e g i) m=.no A c n s:=by rw[cj];simp[l,Rs.bind,G,r,J,p]
       rw[em];simp only[cC];refine gz ?_;exact gD (eY o.q (aZ r) (aZ J) t) trivial (c9 (bG j l) (bG F G) (λ{z}=>@bu.d3 _ _ _ (B z) λk=>aK k)) (ff D p) k0
      |ok u s=>
       have em:cj k.cz (.mk 3 name max a b f e g i) m=.ok () s:=by rw[cj];simp[l,Rs.bind,G,r,J,p]
       rw[em];simp only[cC];refine gz ?_;exact gR (eY o.q (aZ r) (aZ J) t) trivial (eY (bG j l) (bG F G) (λ{z}=>@bu.d3 _ _ _ (B z) λk=>aK k) (bG D p)) k0
     have em:cj k.cz (.mk 3 name max a b f e g i) m=.no 2 1009 E Y:=by rw[cj];simp[l,Rs.bind,G,r,t,J,bB]
     rw[em];simp only[cC];refine gz ?_;exact gD (eY o.q (aZ r) t J) trivial (bf (bG j l) (bG F G)) (λ{z}=>@bu.d3 _ _ _ (B z) λk=>b8 k) k0
    .skip
     have em:cj k.cz (.mk 3 name max a b f e g i) m=.no 2 1009 E Y:=by rw[cj];simp[l,Rs.bind,G,r,bB]
     rw[em];simp only[cC];refine gz ?_;exact gD (bf o.q r) trivial (bf (bG j l) (bG F G)) (λ{z}=>@bu.d3 _ _ _ (B z) λk=>b8 k) k0
  by_cases R:y=4
  .subst R;have D:=FD k q v.s V0 (h.c2 (b:=.var false (bA 4 name max a b f e g i)) (c:=.var false [.p (.int .i64 v.k),.p (.int .i64 v.n),.p (.str v.s)])) C.ps (by have:=C.NG ae ae;omega) I.wr;dsimp only[bA]at D;by_cases r:v.k=2
   .cases p:fe k.cz v.s V0 q with
    |no A c n s=>
     have em:cj k.cz (.mk 4 name max a b f e g i) m=.no A c n s:=by rw[cj];simp[l,Rs.bind,r,p]
     rw[em];simp only[cC];refine gz ?_;exact gD (bf o.q (aZ r)) trivial (bf (bG j l) (λ{z}=>@bu.d2 _ _ _ (B z) λk=>aK k)) (ff D p) k0
    |ok u s=>
     have em:cj k.cz (.mk 4 name max a b f e g i) m=.ok () s:=by rw[cj];simp[l,Rs.bind,r,p]
     rw[em];simp only[cC];refine gz ?_;exact gR (bf o.q (aZ r)) trivial (c9 (bG j l) (λ{z}=>@bu.d2 _ _ _ (B z) λk=>aK k) (bG D p)) k0
   .skip
    have em:cj k.cz (.mk 4 name max a b f e g i) m=.no 2 1009 E q:=by rw[cj];simp[l,Rs.bind,r,bB]
    rw[em];simp only[cC];refine gz ?_;exact gD (bf o.q r) trivial (bG j l) (λ{z}=>@bu.d2 _ _ _ (B z) λk=>b8 k) k0
  by_cases S:y=5
  .subst S;by_cases r:v.k=3
   .by_cases t:v.n=1
    .have H:=N _ _ q (h.c2 (b:=.var false (bA 5 name max a b f e g i)) (c:=.var false [.p (.int .i64 v.k),.p (.int .i64 v.n),.p (.str v.s)])) (C.le ae ae ae);dsimp only[bA]at H;cases p:bN k.cz e q with
     |no A c n s=>
      have em:cj k.cz (.mk 5 name max a b f e g i) m=.no A c n s:=by rw[cj];simp[l,Rs.bind,r,t,p]
      rw[em];simp only[cC];refine gz ?_;exact gD (c9 o.q (aZ r) (aZ t)) trivial (bf (bG j l) (λ{z}=>@bu.d2 _ _ _ (B z) λk=>aK k)) (ff H p) k0
     |ok u s=>
      have em:cj k.cz (.mk 5 name max a b f e g i) m=.ok () s:=by rw[cj];simp[l,Rs.bind,r,t,p]
      rw[em];simp only[cC];refine gz ?_;exact gR (c9 o.q (aZ r) (aZ t)) trivial (c9 (bG j l) (λ{z}=>@bu.d2 _ _ _ (B z) λk=>aK k) (bG H p)) k0
    .have H:=Z _ _ q (h.c2 (b:=.var false (bA 5 name max a b f e g i)) (c:=.var false [.p (.int .i64 v.k),.p (.int .i64 v.n),.p (.str v.s)])) (C.le ae ae ae);dsimp only[bA]at H;cases p:bN k.cz i q with
     |no A c n s=>
      have em:cj k.cz (.mk 5 name max a b f e g i) m=.no A c n s:=by rw[cj];simp[l,Rs.bind,r,t,p]
      rw[em];simp only[cC];refine gz ?_;exact gD (c9 o.q (aZ r) t) trivial (bf (bG j l) (λ{z}=>@bu.d2 _ _ _ (B z) λk=>aK k)) (ff H p) k0
     |ok u s=>
      have em:cj k.cz (.mk 5 name max a b f e g i) m=.ok () s:=by rw[cj];simp[l,Rs.bind,r,t,p]
      rw[em];simp only[cC];refine gz ?_;exact gR (c9 o.q (aZ r) t) trivial (c9 (bG j l) (λ{z}=>@bu.d2 _ _ _ (B z) λk=>aK k) (bG H p)) k0
   .skip
    have em:cj k.cz (.mk 5 name max a b f e g i) m=.no 2 1009 E q:=by rw[cj];simp[l,Rs.bind,r,bB]
    rw[em];simp only[cC];refine gz ?_;exact gD (bf o.q r) trivial (bG j l) (λ{z}=>@bu.d2 _ _ _ (B z) λk=>b8 k) k0
  by_cases U:y=7
  .subst U;have M:=UO k q v (h.c2 (b:=.var false (bA 7 name max a b f e g i)) (c:=.var false [.p (.int .i64 v.k),.p (.int .i64 v.n),.p (.str v.s)])) C.ou;dsimp only[bA]at M;by_cases t:v.k=1
   .cases p:nM v q with
    |no A c n s=>
     have em:cj k.cz (.mk 7 name max a b f e g i) m=.no A c n s:=by rw[cj];simp[l,Rs.bind,t,p]
     rw[em];simp only[cC];refine gz ?_;exact gD (bf o.q (aZ t)) trivial (bf (bG j l) (λ{z}=>@bu.d2 _ _ _ (B z) λk=>aK k)) (ff M p) k0
    |ok u s=>
     have em:cj k.cz (.mk 7 name max a b f e g i) m=.ok () s:=by rw[cj];simp[l,Rs.bind,t,p]
     rw[em];simp only[cC];refine gz ?_;exact gR (bf o.q (aZ t)) trivial (c9 (bG j l) (λ{z}=>@bu.d2 _ _ _ (B z) λk=>aK k) (bG M p)) k0
   by_cases J:v.k=2
   .cases p:nM v q with
    |no A c n s=>
     have em:cj k.cz (.mk 7 name max a b f e g i) m=.no A c n s:=by rw[cj];simp[l,Rs.bind,J,p]
     rw[em];simp only[cC];refine gz ?_;exact gD (c9 o.q (aZ J) t) trivial (bf (bG j l) (λ{z}=>@bu.d2 _ _ _ (B z) λk=>aK k)) (ff M p) k0
    |ok u s=>
     have em:cj k.cz (.mk 7 name max a b f e g i) m=.ok () s:=by rw[cj];simp[l,Rs.bind,J,p]
     rw[em];simp only[cC];refine gz ?_;exact gR (c9 o.q (aZ J) t) trivial (c9 (bG j l) (λ{z}=>@bu.d2 _ _ _ (B z) λk=>aK k) (bG M p)) k0
   .skip
    have em:cj k.cz (.mk 7 name max a b f e g i) m=.no 2 1009 E q:=by rw[cj];simp[l,Rs.bind,t,J,bB]
    rw[em];simp only[cC];refine gz ?_;exact gD (c9 o.q t J) trivial (bG j l) (λ{z}=>@bu.d2 _ _ _ (B z) λk=>b8 k) k0
  by_cases V:y=6
  .subst V;have W:=K rfl _ _ m (h.c1 (b:=.var false (bA 6 name max a b f e g i))) hm;dsimp only[bA]at W;cases e6:cj k.cz (.mk 6 name max a b f e g i) m with
   |no x9 c6 x2 m6=>
    simp only[cC];refine gz ?_;exact gD o.q trivial trivial (ff W e6) k0
   |ok u6 m6=>
    simp only[cC];refine gz ?_;exact gR o.q trivial (bG W e6) k0
  by_cases X:y=8
  .subst X;have em:cj k.cz (.mk 8 name max a b f e g i) m=.no 2 max E m:=by rw[cj];simp[bB]
   rw[em];simp only[cC];refine gz ?_;exact gD o.q trivial trivial (λ{z}=>@bu.d1 _ _ _ (B z) λk=>gu max k) k0
  .skip
   have em:cj k.cz (.mk y name max a b f e g i) m=.ok () m:=by rw[cj];simp[O,P,Q,R,S,U,V,X]
   rw[em];simp only[cC];refine gz ?_;exact gN (ow o.q O P Q R S U V X) k0
end
end
end Go.Dv.Tryz
