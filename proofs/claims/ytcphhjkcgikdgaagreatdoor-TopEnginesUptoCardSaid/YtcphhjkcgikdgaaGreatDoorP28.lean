/- Lemmas for the law of this claim. -/
import Derived.Test.YtcphhjkcgikdgaaGreatDoorP27
set_option linter.all false
set_option maxRecDepth 100000
set_option maxHeartbeats 16000000
namespace Go.Dv.Tryz
section
open Go Go.Dv
abbrev dR(e:Int)(name:ByteArray)(max:Int)(a b:bj)(f:Bool)(c:List cl)(g:Bool)(d:List cl):List DV:=[.p (.int .i64 e),.p (.str name),.p (.int .i64 max),.p (.int .i64 a.op),.p (.int .i64 a.n),.p (.str a.s),.p (.slice a.f (cn a.xs)),.p (.int .i64 b.op),.p (.int .i64 b.n),.p (.str b.s),.p (.slice b.f (cn b.xs)),.p (.slice f (cU c)),.p (.slice g (cU d))]
def LC(T:Heap)(k:Kc)(f:Bool)(l:List cl):Prop:=∀(L:Heap) (nx:Nat) (m:MS),je L T nx->pN m->CS tb 88 [.ptr 6 0,.p (.slice f (cU l))] (L++mb T k m) nx (cM L T k nx CQ (cJ k.cz l m))
def XF(T:Heap)(k:Kc)(name:ByteArray)(max:Int)(a b:bj)(f:Bool)(c:List cl)(g:Bool)(d:List cl):Prop:=∀(L:Heap) (nx:Nat) (m:MS),je L T nx->MI 2097152 1 16384 m->CS tb 140 [.ptr 6 0,.agg (dR 6 name max a b f c g d)] (L++mb T k m) nx (cM L T k nx CQ (cC k.cz (.mk 6 name max a b f c g d) m))
section
variable{L T:Heap}{nx:Nat}
def MI.len{c p t:Int}{m:MS}(h:MI c p t m)(a:0<=c)(b:t<=16385):m.reads.length<=34362884096:=by
 have d:=h.rl;have e:=h.s1;omega
def MI.OO{c p t:Int}{m:MS}(h:MI c p t m)(a:0<=p)(b:t<=16385):m.dm.length<=16385:=by
 have d:=h.pl;have e:=h.s1;omega
def GD{T:Heap}{k:Kc}(b:Ht k){e:bj}(d:e.ok)(f:e.sz<=jL){c p:Int}{m:MS}(a:MI c p 16384 m)(g:0<=c){L:Heap}{nx:Nat}(h:je L T nx):
  CS tb 137 [.ptr 6 0,.agg [.p (.int .i64 e.op),.p (.int .i64 e.n),.p (.str e.s),.p (.slice e.f (cn e.xs))]] (L++mb T k m) nx (cM L T k nx gJ (eO k.cz e m)):=
 Lm k b e.sz e (Nat.le_refl _) L nx m d h a.rs (by have:=a.len g ae;simp only[jL]at f;omega) a.vs a.os
def gU{P q:Prop}(k:q)(h:Bx q->P:=by
 intro k;refine hZ (af:=SL) rfl rfl ?_;unfold SL;dsimp only[ai,dR];exact k.q):P:=h ⟨k⟩
def Uh(k:Kc)(I:Ht k)(y:Int)(name:ByteArray)(max:Int)(a b:bj)(f:Bool)(e:List cl)(g:Bool)(i:List cl)(ha:a.ok/\a.sz<=jL)(hb:b.ok/\b.sz<=jL)(N:LC T k f e)(Z:LC T k g i)(K:y=6->XF T k name max a b f e g i)
  (m:MS)(h:je L T nx)(hm:MI 2097152 1 16384 m):CS tb 118 [.ptr 6 0,.agg (dR y name max a b f e g i)] (L++mb T k m) nx (cM L T k nx CQ (cC k.cz (.mk y name max a b f e g i) m)):=by
 obtain⟨x,rfl⟩:=h.ex;have o:=h.lf k;have B:=h.ml k;have j:=GD (k:=k) I ha.1 ha.2 hm ae (h.c1 (b:=.var false (dR y name max a b f e g i)));dsimp only[dR]at j;have x0:=tf (c:=k.cz) I.g ha.1 ha.2 ae ae hm;cases l:eO k.cz a m with
 |no A c n q=>
  by_cases O:y=1
  .subst O;have em:cC k.cz (.mk 1 name max a b f e g i) m=.no A c n q:=by rw[cC];simp[l,Rs.bind]
   rw[em];simp only[cM];refine gU ?_;exact gD o.q trivial trivial (fH j l) k0
  by_cases P:y=2
  .subst P;have em:cC k.cz (.mk 2 name max a b f e g i) m=.no A c n q:=by rw[cC];simp[l,Rs.bind]
   rw[em];simp only[cM];refine gU ?_;exact gD o.q trivial trivial (fH j l) k0
  by_cases Q:y=3
  .subst Q;have em:cC k.cz (.mk 3 name max a b f e g i) m=.no A c n q:=by rw[cC];simp[l,Rs.bind]
   rw[em];simp only[cM];refine gU ?_;exact gD o.q trivial trivial (fH j l) k0
  by_cases R:y=4
  .subst R;have em:cC k.cz (.mk 4 name max a b f e g i) m=.no A c n q:=by rw[cC];simp[l,Rs.bind]
   rw[em];simp only[cM];refine gU ?_;exact gD o.q trivial trivial (fH j l) k0
  by_cases S:y=5
  .subst S;have em:cC k.cz (.mk 5 name max a b f e g i) m=.no A c n q:=by rw[cC];simp[l,Rs.bind]
   rw[em];simp only[cM];refine gU ?_;exact gD o.q trivial trivial (fH j l) k0
  by_cases U:y=7
  .subst U;have em:cC k.cz (.mk 7 name max a b f e g i) m=.no A c n q:=by rw[cC];simp[l,Rs.bind]
   rw[em];simp only[cM];refine gU ?_;exact gD o.q trivial trivial (fH j l) k0
  by_cases V:y=6
  .subst V;have W:=K rfl _ _ m (h.c1 (b:=.var false (dR 6 name max a b f e g i))) hm;dsimp only[dR]at W;cases e6:cC k.cz (.mk 6 name max a b f e g i) m with
   |no x9 c6 x2 m6=>
    simp only[cM];refine gU ?_;exact gD o.q trivial trivial (fH W e6) k0
   |ok u6 m6=>
    simp only[cM];refine gU ?_;exact gR o.q trivial (bF W e6) k0
  by_cases X:y=8
  .subst X;have em:cC k.cz (.mk 8 name max a b f e g i) m=.no 2 max E m:=by rw[cC];simp[b9]
   rw[em];simp only[cM];refine gU ?_;exact gD o.q trivial trivial (λ{z}=>@bn.d1 _ _ _ (B z) λk=>gL max k) k0
  .skip
   have em:cC k.cz (.mk y name max a b f e g i) m=.ok () m:=by rw[cC];simp[O,P,Q,R,S,U,V,X]
   rw[em];simp only[cM];refine gU ?_;exact gN (rG o.q O P Q R S U V X) k0
 |ok v q=>
  rw[l]at x0;obtain⟨hv,C⟩:=x0
  replace C:MI 1048576 1 16384 q:=C.le ae ae ae
  have x3:aC (L++mb T k q) 4 (.map false (.strs (if(q.vars name).isSome then q.vn else q.vn+1) (nY (pP q.vars name v))))=L++mb T k (lY name v q):=by rw[h.s _ 4 ae];rfl
  have ei:(nY q.vars name).isSome=(q.vars name).isSome:=by simp[nY]
  by_cases O:y=1
  .subst O;have em:cC k.cz (.mk 1 name max a b f e g i) m=.ok () (lY name v q):=by rw[cC];simp[l,Rs.bind]
   rw[em];simp only[cM];refine gU ?_;exact gR (fW o.q x3 ei @pH) trivial (bF j l) k0
  by_cases P:y=2
  .subst P;have em:cC k.cz (.mk 2 name max a b f e g i) m=.ok () (lY name v q):=by rw[cC];simp[l,Rs.bind]
   rw[em];simp only[cM];refine gU ?_;exact gR (fW o.q x3 ei @pH) trivial (bF j l) k0
  by_cases Q:y=3
  .subst Q;have F:=GD (k:=k) I hb.1 hb.2 C ae (h.c2 (b:=.var false (dR 3 name max a b f e g i)) (c:=.var false [.p (.int .i64 v.k),.p (.int .i64 v.n),.p (.str v.s)]));dsimp only[dR]at F;have x4:=tf (c:=k.cz) I.g hb.1 hb.2 ae ae C;cases G:eO k.cz b q with
   |no A c n Y=>
    have em:cC k.cz (.mk 3 name max a b f e g i) m=.no A c n Y:=by rw[cC];simp[l,Rs.bind,G]
    rw[em];simp only[cM];refine gU ?_;exact gD o.q trivial (bF j l) (fH F G) k0
   |ok w Y=>
    rw[G]at x4;obtain⟨hw,x5⟩:=x4;have D:=Ff k Y v.s w (h.c3 (b:=.var false (dR 3 name max a b f e g i)) (c:=.var false [.p (.int .i64 v.k),.p (.int .i64 v.n),.p (.str v.s)]) (d:=.var false [.p (.int .i64 w.k),.p (.int .i64 w.n),.p (.str w.s)])) x5.ps (by have:=x5.OO ae ae;omega) I.wr;dsimp only[dR]at D;by_cases r:v.k=2
    .by_cases t:w.k=1
     .cases p:iA k.cz v.s w Y with
      |no A c n s=>
       have em:cC k.cz (.mk 3 name max a b f e g i) m=.no A c n s:=by rw[cC];simp[l,Rs.bind,G,r,t,p]
       rw[em];simp only[cM];refine gU ?_;exact gD (dS o.q (bU r) (bU t)) trivial (dS (bF j l) (bF F G) (λ{z}=>@bn.d3 _ _ _ (B z) λk=>aM k)) (fH D p) k0
      |ok u s=>
       have em:cC k.cz (.mk 3 name max a b f e g i) m=.ok () s:=by rw[cC];simp[l,Rs.bind,G,r,t,p]
       rw[em];simp only[cM];refine gU ?_;exact gR (dS o.q (bU r) (bU t)) trivial (fW (bF j l) (bF F G) (λ{z}=>@bn.d3 _ _ _ (B z) λk=>aM k) (bF D p)) k0
     by_cases J:w.k=2
     .cases p:iA k.cz v.s w Y with
      |no A c n s=>
       have em:cC k.cz (.mk 3 name max a b f e g i) m=.no A c n s:=by rw[cC];simp[l,Rs.bind,G,r,J,p]
       rw[em];simp only[cM];refine gU ?_;exact gD (fW o.q (bU r) (bU J) t) trivial (dS (bF j l) (bF F G) (λ{z}=>@bn.d3 _ _ _ (B z) λk=>aM k)) (fH D p) k0
      |ok u s=>
       have em:cC k.cz (.mk 3 name max a b f e g i) m=.ok () s:=by rw[cC];simp[l,Rs.bind,G,r,J,p]
       rw[em];simp only[cM];refine gU ?_;exact gR (fW o.q (bU r) (bU J) t) trivial (fW (bF j l) (bF F G) (λ{z}=>@bn.d3 _ _ _ (B z) λk=>aM k) (bF D p)) k0
     have em:cC k.cz (.mk 3 name max a b f e g i) m=.no 2 1009 E Y:=by rw[cC];simp[l,Rs.bind,G,r,t,J,b9]
     rw[em];simp only[cM];refine gU ?_;exact gD (fW o.q (bU r) t J) trivial (bA (bF j l) (bF F G)) (λ{z}=>@bn.d3 _ _ _ (B z) λk=>cq k) k0
    .skip
     have em:cC k.cz (.mk 3 name max a b f e g i) m=.no 2 1009 E Y:=by rw[cC];simp[l,Rs.bind,G,r,b9]
     rw[em];simp only[cM];refine gU ?_;exact gD (bA o.q r) trivial (bA (bF j l) (bF F G)) (λ{z}=>@bn.d3 _ _ _ (B z) λk=>cq k) k0
  by_cases R:y=4
  .subst R;have D:=Ff k q v.s V0 (h.c2 (b:=.var false (dR 4 name max a b f e g i)) (c:=.var false [.p (.int .i64 v.k),.p (.int .i64 v.n),.p (.str v.s)])) C.ps (by have:=C.OO ae ae;omega) I.wr;dsimp only[dR]at D;by_cases r:v.k=2
   .cases p:iA k.cz v.s V0 q with
    |no A c n s=>
     have em:cC k.cz (.mk 4 name max a b f e g i) m=.no A c n s:=by rw[cC];simp[l,Rs.bind,r,p]
     rw[em];simp only[cM];refine gU ?_;exact gD (bA o.q (bU r)) trivial (bA (bF j l) (λ{z}=>@bn.d2 _ _ _ (B z) λk=>aM k)) (fH D p) k0
    |ok u s=>
     have em:cC k.cz (.mk 4 name max a b f e g i) m=.ok () s:=by rw[cC];simp[l,Rs.bind,r,p]
     rw[em];simp only[cM];refine gU ?_;exact gR (bA o.q (bU r)) trivial (dS (bF j l) (λ{z}=>@bn.d2 _ _ _ (B z) λk=>aM k) (bF D p)) k0
   .skip
    have em:cC k.cz (.mk 4 name max a b f e g i) m=.no 2 1009 E q:=by rw[cC];simp[l,Rs.bind,r,b9]
    rw[em];simp only[cM];refine gU ?_;exact gD (bA o.q r) trivial (bF j l) (λ{z}=>@bn.d2 _ _ _ (B z) λk=>cq k) k0
  by_cases S:y=5
  .subst S;by_cases r:v.k=3
   .by_cases t:v.n=1
    .have H:=N _ _ q (h.c2 (b:=.var false (dR 5 name max a b f e g i)) (c:=.var false [.p (.int .i64 v.k),.p (.int .i64 v.n),.p (.str v.s)])) (C.le ae ae ae);dsimp only[dR]at H;cases p:cJ k.cz e q with
     |no A c n s=>
      have em:cC k.cz (.mk 5 name max a b f e g i) m=.no A c n s:=by rw[cC];simp[l,Rs.bind,r,t,p]
      rw[em];simp only[cM];refine gU ?_;exact gD (dS o.q (bU r) (bU t)) trivial (bA (bF j l) (λ{z}=>@bn.d2 _ _ _ (B z) λk=>aM k)) (fH H p) k0
     |ok u s=>
      have em:cC k.cz (.mk 5 name max a b f e g i) m=.ok () s:=by rw[cC];simp[l,Rs.bind,r,t,p]
      rw[em];simp only[cM];refine gU ?_;exact gR (dS o.q (bU r) (bU t)) trivial (dS (bF j l) (λ{z}=>@bn.d2 _ _ _ (B z) λk=>aM k) (bF H p)) k0
    .have H:=Z _ _ q (h.c2 (b:=.var false (dR 5 name max a b f e g i)) (c:=.var false [.p (.int .i64 v.k),.p (.int .i64 v.n),.p (.str v.s)])) (C.le ae ae ae);dsimp only[dR]at H;cases p:cJ k.cz i q with
     |no A c n s=>
      have em:cC k.cz (.mk 5 name max a b f e g i) m=.no A c n s:=by rw[cC];simp[l,Rs.bind,r,t,p]
      rw[em];simp only[cM];refine gU ?_;exact gD (dS o.q (bU r) t) trivial (bA (bF j l) (λ{z}=>@bn.d2 _ _ _ (B z) λk=>aM k)) (fH H p) k0
     |ok u s=>
      have em:cC k.cz (.mk 5 name max a b f e g i) m=.ok () s:=by rw[cC];simp[l,Rs.bind,r,t,p]
      rw[em];simp only[cM];refine gU ?_;exact gR (dS o.q (bU r) t) trivial (dS (bF j l) (λ{z}=>@bn.d2 _ _ _ (B z) λk=>aM k) (bF H p)) k0
   .skip
    have em:cC k.cz (.mk 5 name max a b f e g i) m=.no 2 1009 E q:=by rw[cC];simp[l,Rs.bind,r,b9]
    rw[em];simp only[cM];refine gU ?_;exact gD (bA o.q r) trivial (bF j l) (λ{z}=>@bn.d2 _ _ _ (B z) λk=>cq k) k0
  by_cases U:y=7
  .subst U;have M:=UC k q v (h.c2 (b:=.var false (dR 7 name max a b f e g i)) (c:=.var false [.p (.int .i64 v.k),.p (.int .i64 v.n),.p (.str v.s)])) C.ou;dsimp only[dR]at M;by_cases t:v.k=1
   .cases p:s9 v q with
    |no A c n s=>
     have em:cC k.cz (.mk 7 name max a b f e g i) m=.no A c n s:=by rw[cC];simp[l,Rs.bind,t,p]
     rw[em];simp only[cM];refine gU ?_;exact gD (bA o.q (bU t)) trivial (bA (bF j l) (λ{z}=>@bn.d2 _ _ _ (B z) λk=>aM k)) (fH M p) k0
    |ok u s=>
     have em:cC k.cz (.mk 7 name max a b f e g i) m=.ok () s:=by rw[cC];simp[l,Rs.bind,t,p]
     rw[em];simp only[cM];refine gU ?_;exact gR (bA o.q (bU t)) trivial (dS (bF j l) (λ{z}=>@bn.d2 _ _ _ (B z) λk=>aM k) (bF M p)) k0
   by_cases J:v.k=2
   .cases p:s9 v q with
    |no A c n s=>
     have em:cC k.cz (.mk 7 name max a b f e g i) m=.no A c n s:=by rw[cC];simp[l,Rs.bind,J,p]
     rw[em];simp only[cM];refine gU ?_;exact gD (dS o.q (bU J) t) trivial (bA (bF j l) (λ{z}=>@bn.d2 _ _ _ (B z) λk=>aM k)) (fH M p) k0
    |ok u s=>
     have em:cC k.cz (.mk 7 name max a b f e g i) m=.ok () s:=by rw[cC];simp[l,Rs.bind,J,p]
     rw[em];simp only[cM];refine gU ?_;exact gR (dS o.q (bU J) t) trivial (dS (bF j l) (λ{z}=>@bn.d2 _ _ _ (B z) λk=>aM k) (bF M p)) k0
   .skip
    have em:cC k.cz (.mk 7 name max a b f e g i) m=.no 2 1009 E q:=by rw[cC];simp[l,Rs.bind,t,J,b9]
    rw[em];simp only[cM];refine gU ?_;exact gD (dS o.q t J) trivial (bF j l) (λ{z}=>@bn.d2 _ _ _ (B z) λk=>cq k) k0
  by_cases V:y=6
  .subst V;have W:=K rfl _ _ m (h.c1 (b:=.var false (dR 6 name max a b f e g i))) hm;dsimp only[dR]at W;cases e6:cC k.cz (.mk 6 name max a b f e g i) m with
   |no x9 c6 x2 m6=>
    simp only[cM];refine gU ?_;exact gD o.q trivial trivial (fH W e6) k0
   |ok u6 m6=>
    simp only[cM];refine gU ?_;exact gR o.q trivial (bF W e6) k0
  by_cases X:y=8
  .subst X;have em:cC k.cz (.mk 8 name max a b f e g i) m=.no 2 max E m:=by rw[cC];simp[b9]
   rw[em];simp only[cM];refine gU ?_;exact gD o.q trivial trivial (λ{z}=>@bn.d1 _ _ _ (B z) λk=>gL max k) k0
  .skip
   have em:cC k.cz (.mk y name max a b f e g i) m=.ok () m:=by rw[cC];simp[O,P,Q,R,S,U,V,X]
   rw[em];simp only[cM];refine gU ?_;exact gN (rG o.q O P Q R S U V X) k0
end
end
end Go.Dv.Tryz
