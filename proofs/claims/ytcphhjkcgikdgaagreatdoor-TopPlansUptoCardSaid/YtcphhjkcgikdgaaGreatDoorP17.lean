/- Lemmas for the law of this claim. -/
import Derived.Test.YtcphhjkcgikdgaaGreatDoorP16
import Derived.IntWalk
set_option linter.all false
namespace Go.Dv
section
def aI.ND(a:aI):Prop:=∀f args H d r,a.dies f args H d=some r->a.de f args H d=none
structure aI.le(a b:aI):Prop where
 pure:∀f args r,a.pure f args=some r->b.pure f args=some r
 de:∀f args H nx r,a.de f args H nx=some r->b.de f args H nx=some r
 dies:∀f args H nx r,a.dies f args H nx=some r->b.dies f args H nx=some r
 only:b.ND
def aI.le.refl{a:aI}(h:a.ND):a.le a:=⟨λ_ _ _ h=>h,λ_ _ _ _ _ h=>h,λ_ _ _ _ _ h=>h,h⟩
def aI.le.trans{a b c:aI}(h:a.le b)(k:b.le c):a.le c:=⟨λf x r e=>k.pure f x r (h.pure f x r e),λf x H n r e=>k.de f x H n r (h.de f x H n r e),λf x H n r e=>k.dies f x H n r (h.dies f x H n r e),k.only⟩
def IB{a:aI}(h:a.ND):lD.le a:=⟨λ_ _ _ h=>(by cases h),λ_ _ _ _ _ h=>(by cases h),λ_ _ _ _ _ h=>(by cases h),h⟩
def jE(A:FuncId->Option au)(X:aI):∀n,(dG A X n).ND
 |0=>λf args H l r h=>by simp only[dG]at h;cases h
 |n+1=>λf args H l r h=>by
  rw[dG]at h⊢;simp only at h⊢;cases d:A f with
  |none=>rw[d]at h;cases h
  |some e=>
   rw[d]at h;simp only at h⊢;unfold ss at h;unfold jH;split at h
   case isFalse=>cases h
   rename_i m;cases g:gU e.body with
   |some run=>
    exfalso;cases k:e.body<;>rw[k]at g<;>simp only[gU,reduceCtorEq]at g
    rw[k]at h;simp only[aN]at h;cases h
   |none=>
    simp only;rw[aq m];split at h
    .rename_i p;rw[p]
    .cases h
def uK{a b:aI}(h:a.le b){d:Bool}{f:FuncId}{l:List DV}{H:Heap}{m:Nat}{r:DV×Heap×Nat}(e:iU a d f l H m=some r):iU b d f l H m=some r:=by
 unfold iU at e⊢;split at e
 .rename_i g;rw[aq g];exact h.de _ _ _ _ _ e
 .rename_i g;rw[an g];cases n:cl (bE H dep) l with
  |none=>rw[n]at e;cases e
  |some p=>
   rw[n]at e;simp only at e⊢;cases k:a.pure f p with
   |none=>rw[k]at e;cases e
   |some q=>rw[k]at e;rw[h.pure _ _ _ k];exact e
def Ha{a b:aI}(h:a.le b){d:dN}{s:St}{r:DV×Heap×Nat}(e:bg a d s=some r):bg b d s=some r:=by
 cases d
 case call g f args=>
  simp only[bg]at e⊢;cases k:gn s args with
  |none=>rw[k]at e;cases e
  |some l=>rw[k]at e;exact uK h e
 case eu g n args=>
  simp only[bg]at e⊢;split at e
  .exact uK h e
  .exact uK h e
  .exact uK h e
  .cases e
 case jZ f args=>
  simp only[bg]at e⊢;cases k:gn s args with
  |none=>rw[k]at e;cases e
  |some l=>
   rw[k]at e;simp only at e⊢;cases m:a.de f l s.heap s.next with
   |none=>rw[m]at e;cases e
   |some q=>rw[m]at e;rw[h.de _ _ _ _ _ m];exact e
 all_goals exact e
def pE{a b:aI}(h:a.le b){d:ai}{s s':St}(e:cM a d s=some s'):cM b d s=some s':=by
 unfold cM at e⊢;cases g:gd d.guard s.env with
 |none=>rw[g]at e;cases e
 |some t=>
  rw[g]at e;cases t with
  |false=>exact e
  |true=>
   simp only at e⊢;cases f:bg a d.op s with
   |none=>rw[f]at e;cases e
   |some r=>rw[f]at e;rw[Ha h f];exact e
def ig{a b:aI}(h:a.le b):∀(l:List ai) (s s':St),bR a l s=some s'->bR b l s=some s'
 |[],_,_,e=>e
 |o::r,s,s',e=>by
  simp only[bR]at e⊢;cases d:cM a o s with
  |none=>rw[d]at e;cases e
  |some f=>rw[d]at e;rw[pE h d];exact ig h r f s' e
def TO{a b:aI}(h:a.le b){g:List ai}{f:List (Nat×Nat)}{n:List Nat}{d:List (List Nat)}{s p:St}(e:vp a g f n d s=some p):vp b g f n d s=some p:=by
 unfold vp at e⊢;cases d with
 |nil=>cases e
 |cons l r=>
  simp only at e⊢;cases k:bR a (tt g l) s with
  |none=>rw[k]at e;cases e
  |some A=>
   rw[k]at e;rw[ig h _ _ _ k];simp only at e⊢;split at e
   .rename_i t;rw[aq t];split at e
    .rename_i u q;split at e
     .rename_i v;rw[aq]
      .exact e
      .intro w m;obtain⟨x,y,z⟩:=v w m;exact⟨x,ig h _ _ _ y,z⟩
     .cases e
    .cases e
   .cases e
def zM{a b:aI}(h:a.le b):∀(l:List (ai×List Nat)) (s s':St),ox a l s=some s'->ox b l s=some s'
 |[],_,_,e=>e
 |(o,k)::r,s,s',e=>by
   simp only[ox]at e⊢;cases d:cM a o s with
   |none=>rw[d]at e;cases e
   |some f=>rw[d]at e;rw[pE h d];exact zM h r _ s' e
def wz{a b:aI}(h:a.le b){o:ai}{s:St}{q:PV×Heap}(e:dieOf a o s=some q):dieOf b o s=some q/\cM b o s=none:=by
 unfold dieOf at e⊢;split at e
 .rename_i f args g k;cases d:gn s args with
  |none=>rw[d]at e;cases e
  |some l=>
   rw[d]at e;simp only at e;have m:=h.dies _ _ _ _ _ e;refine⟨by simp only[g,k,d,m],?_⟩;unfold cM;rw[g];simp only[k,bg,d,iU,bZ,h.only _ _ _ _ _ m]
 .cases e
def zK{a b:aI}(h:a.le b):∀(l:List (ai×List Nat)) (s:St) (r:Ex×St),oE a l s=some r->oE b l s=some r
 |[],_,_,e=>e
 |(o,k)::r,s,q,e=>by
   simp only[oE]at e⊢;cases d:cM a o s with
   |none=>
    rw[d]at e;simp only at e;cases f:dieOf a o s with
    |none=>rw[f]at e;cases e
    |some p=>
     rw[f]at e;obtain⟨g,m⟩:=wz h f;rw[m,g];exact e
   |some n=>rw[d]at e;rw[pE h d];exact zK h r _ q e
def ML{a b:aI}(h:a.le b){pre:List ai}{d:ai}{post:List ai}{s:St}{r:Ex×St}(e:lQ a pre d post s=some r):lQ b pre d post s=some r:=by
 unfold lQ at e⊢;cases f:bR a pre s with
 |none=>rw[f]at e;cases e
 |some q=>
  rw[f]at e;rw[ig h _ _ _ f];simp only at e⊢;cases g:cM a d q with
  |none=>
   rw[g]at e;simp only at e;cases k:dieOf a d q with
   |none=>rw[k]at e;cases e
   |some p=>
    rw[k]at e;obtain⟨t,u⟩:=wz h k;rw[u,t];exact e
  |some l=>
   rw[g]at e;rw[pE h g];simp only at e⊢;cases m:bR a pre {s with heap:=l.heap,next:=l.next}with
   |none=>rw[m]at e;cases e
   |some w=>
    rw[m]at e;rw[ig h _ _ _ m];simp only at e⊢;split at e
    .rename_i v;rw[aq v];cases n:bR a post l with
     |none=>rw[n]at e;cases e
     |some x=>rw[n]at e;rw[ig h _ _ _ n];exact e
    .cases e
def qi{f g:St->R}(h:∀s r,f s=some r->g s=some r)(k:Nat)(hid:List Nat):∀(l:List DV) (s:St) (r:Ex×St),dW f k hid l s=some r->dW g k hid l s=some r
 |[],_,_,e=>e
 |d::l,s,r,e=>by
  simp only[dW]at e⊢;cases m:f {s with env:=fi s.env k d,marks:=[]}with
  |none=>rw[m]at e;cases e
  |some q=>
   rw[m]at e;rw[h _ _ m];obtain⟨x,n⟩:=q;cases x with
   |normal=>exact qi h k hid l _ r e
   |exit id=>cases e
   |ret|panic v=>exact e
def K9{a b:aI}(h:a.le b){d:List ai}{f g:St->R}(l:∀s r,f s=some r->g s=some r)(s:St)(r:Ex×St)(e:eO a d f s=some r):eO b d g s=some r:=by
 unfold eO at e⊢;cases k:bR a d s with
 |none=>rw[k]at e;cases e
 |some m=>rw[k]at e;rw[ig h _ _ _ k];exact l _ _ e
def K3{f n g p:St->R}(h:∀s r,f s=some r->n s=some r)(k:∀s r,g s=some r->p s=some r)(d:Nat)(hid:List Nat)(l:List (ByteArray×MV))(s:St)(r:Ex×St)(e:kO f g d hid l s=some r):kO n p d hid l s=some r:=by
 unfold kO at e⊢;cases m:dW f d hid (l.map λe=>jR e.1 e.2) s with
 |none=>rw[m]at e;cases e
 |some q=>
  rw[m]at e;rw[qi h _ _ _ _ _ m];obtain⟨x,t⟩:=q;cases x with
  |normal=>exact k _ _ e
  |exit id|ret|panic v=>exact e
def j5{a b:aI}(h:a.le b){n m:Nat}(Y:n<=m):∀(c:aC) (s:St) (r:Ex×St),aN a n c s=some r->aN b m c s=some r:=by
 intro c;induction c with
 |skip|ret|exit id=>intro s r e;exact e
 |aT d f=>
  intro s r e;simp only[aN]at e⊢;cases p:ox a f s with
  |none=>rw[p]at e;cases e
  |some A=>rw[p]at e;rw[zM h _ _ _ p];exact e
 |native k fs z=>intro s r e;simp only[aN]at e;cases e
 |aS f=>intro s r e;exact zK h _ _ _ e
 |j2 pre G post kill=>
  intro s r e;simp only[aN]at e⊢;cases p:lQ a pre G post s with
  |none=>rw[p]at e;cases e
  |some q=>rw[p]at e;rw[ML h p];exact e
 |panic f x|region d f kill|iI B f kill=>
  intro s r e;simp only[aN]at e⊢;cases p:bR a f s with
  |none=>rw[p]at e;cases e
  |some A=>rw[p]at e;rw[ig h _ _ _ p];exact e
 |forIn str v hid f x y z w t H=>
  intro s r e;have N:∀s r,eO a f (aN a n x) s=some r->eO b f (aN b m x) s=some r:=K9 h w;cases str<;>rcases hid with _|⟨Z,_|⟨I,hs⟩⟩<;>simp only[aN]at e⊢<;>try cases e
  .cases O:mS (eO a f (aN a n x)) (aN a n y) s v I (Z::I::hs)with
   |none=>rw[O]at e;cases e
   |some q=>
    rw[O]at e;obtain⟨c,hc,P,J⟩:=ve O;rw[AY hc P λl P=>K3 N t _ _ _ _ _ (J l P)];obtain⟨L,A⟩:=q;cases L with
    |normal=>exact H _ _ e
    |exit id|ret|panic v=>exact e
  .split at e
   .split at e
    .rename_i C;rw[aq C];split at e
     .rename_i A R;rw[qi N _ _ _ _ _ R];simp only;split at e
      .rename_i W hy;rw[t _ _ hy];exact H _ _ e
      .rename_i D;rw[t _ _ e];obtain⟨L,W⟩:=r;cases L with
       |normal=>exact absurd e (D _)
       |exit id|ret|panic v=>rfl
     .rename_i D;rw[qi N _ _ _ _ _ e];obtain⟨L,W⟩:=r;cases L with
      |normal=>exact absurd e (D _)
      |exit id|ret|panic v=>rfl
    .cases e
   .cases e
 |after c l E=>
  intro s r e;simp only[aN]at e⊢;cases u:aN a n c s with
  |none=>rw[u]at e;cases e
  |some q=>rw[u]at e;rw[E s q u];exact e
 |ghost g c E=>
  intro s r e;simp only[aN]at e⊢;cases X:eU g s with
  |none=>rw[X]at e;cases e
  |some A=>rw[X]at e;exact E A r e
 |ob B rk M f ks kill=>
  intro s r e;simp only[aN]at e⊢;cases p:vp a f B ks M s with
  |none=>rw[p]at e;cases e
  |some A=>rw[p]at e;rw[TO h p];exact e
 |seq x y w t=>
  intro s r e;simp only[aN]at e⊢;cases u:aN a n x s with
  |none=>rw[u]at e;cases e
  |some q=>
   rw[u]at e;rw[w s q u];obtain⟨S,A⟩:=q;cases S with
   |normal=>exact t A r e
   |exit id|ret|panic v=>exact e
 |cond o x y w t=>
  intro s r e;simp only[aN]at e⊢;split at e
  .exact w s r e
  .exact t s r e
  .cases e
 |block id x E=>
  intro s r e;simp only[aN]at e⊢;cases u:aN a n x s with
  |none=>rw[u]at e;cases e
  |some q=>
   rw[u]at e;rw[E s q u];exact e
 |loop x E=>
  intro s r e;simp only[aN]at e⊢;have U:∀(k F:Nat) (s:St),k<=F->ky (aN a n x) k s=some r->ky (aN b m x) F s=some r:=by
   intro k;induction k with
   |zero=>intro F s _ e;simp[ky]at e
   |succ k V=>
    intro F s hk e;cases F with
    |zero=>omega
    |succ F=>
     simp only[ky]at e⊢;cases u:aN a n x s with
     |none=>rw[u]at e;cases e
     |some q=>
      rw[u]at e;rw[E s q u];obtain⟨S,A⟩:=q;cases S with
      |normal=>exact V F A ae e
      |exit id|ret|panic v=>exact e
  exact U n m s Y e
def MX{a b:aI}(h:a.le b)(k:Nat)(L:List Nat)(z:List PV){args:List DV}{H:Heap}{B:Nat}{r:DV×Heap×Nat}(e:kZ k L z a args H B=some r):kZ k L z b args H B=some r:=by
 have u:∀(d:FuncId) (n:Int) (t:Bool),iO a d n=some t->iO b d n=some t:=by
  intro d n t e;unfold iO at e⊢;cases g:a.pure d [.int .i64 n]with
  |none=>rw[g]at e;cases e
  |some p=>rw[g]at e;rw[h.pure _ _ _ g];exact e
 have w:∀(d:FuncId) (l:List Int) (i:Nat) (r:Int×Nat×Bool),ji (iO a d) i l=some r->ji (iO b d) i l=some r:=by
  intro d l;induction l with
  |nil=>intro i r e;exact e
  |cons n l O=>
   intro i r e;simp only[ji]at e⊢;cases g:iO a d n with
   |none=>rw[g]at e;cases e
   |some t=>
    rw[g]at e;rw[u _ _ _ g];cases t with
    |true=>exact e
    |false=>exact O _ _ e
 have m:∀(d:FuncId) (f:Bool) (D:List (List PV)) (r:Int×Nat×Bool),vY (iO a d) f D=some r->vY (iO b d) f D=some r:=by
  intro d f D r e;unfold vY at e⊢;split at e
  .rename_i E;have C:(aR D).all (λo=>(iO b d o).isSome)=true:=by
    refine List.all_eq_true.2 λo P=>?_
    have y:=List.all_eq_true.1 E.2.2 o P;cases g:iO a d o with
    |none=>rw[g]at y;cases y
    |some t=>rw[u _ _ _ g];rfl
   rw[aq ⟨E.1,E.2.1,C⟩];exact w _ _ _ _ e
  .cases e
 unfold kZ at e⊢;split at e
 .rename_i t;unfold rG at e⊢;split at e
  .rename_i x f v;cases C:a.de f v (rz z H B) (B+2)with
   |some q=>rw[C]at e;rw[h.de _ _ _ _ _ C];exact e
   |none=>
    rw[C]at e;simp only at e;cases F:a.dies f v (rz z H B) (B+2)with
    |none=>rw[F]at e;cases e
    |some q=>
     rw[F]at e;have:=h.dies _ _ _ _ _ F;rw[h.only _ _ _ _ _ this,this];exact e
  .cases e
 .rename_i R S d;unfold qQ at e⊢;split at e
  .rename_i U V W;cases M:cl (bE H dep) [U,V,W]with
   |none=>rw[M]at e;cases e
   |some N=>
    rw[M]at e;simp only at e⊢;cases G:a.pure R [.agg N]with
    |none=>rw[G]at e;cases e
    |some p=>
     rw[G]at e;rw[h.pure _ _ _ G];split at e
     .rename_i I A;cases A;by_cases y:I=0
      .rw[aq y]at e
       show(if I=0 then _ else _)=_
       rw[aq y];cases J:a.pure S [.agg N]with
       |none=>rw[J]at e;cases e
       |some q=>
        rw[J]at e;rw[h.pure _ _ _ J];split at e
        .rename_i A;cases A;split at e
         .rename_i X;rw[m _ _ _ _ X];exact e
         .cases e
        .cases e
      .rw[an y]at e
       show(if I=0 then _ else _)=_
       rw[an y];exact e
     .cases e
  .cases e
 .cases e
def H9{a b:aI}(h:a.le b){n m:Nat}(l:n<=m){f:au}{args:List DV}{H:Heap}{g:Nat}{r:DV×Heap×Nat}(e:jH a n f args H g=some r):jH b m f args H g=some r:=by
 unfold jH at e⊢;cases d:gU f.body with
 |some run=>
  rw[d]at e;cases p:f.body<;>rw[p]at d<;>simp only[gU,reduceCtorEq,aw]at d
  subst d;exact MX h _ _ _ e
 |none=>
  rw[d]at e;simp only at e⊢;split at e
  .rename_i t;rw[aq t];cases k:aN a n f.body {env:=aj 0 args,heap:=H,next:=g,marks:=[g]}with
   |none=>rw[k]at e;cases e
   |some q=>rw[k]at e;rw[j5 h l _ _ _ k];exact e
  .cases e
def PN{a b:aI}(h:a.le b){n m:Nat}(k:n<=m){f:au}{args:List DV}{H:Heap}{d:Nat}{r:PV×Heap}(e:ss a n f args H d=some r):ss b m f args H d=some r:=by
 unfold ss at e⊢;split at e
 .rename_i l;rw[aq l];cases g:aN a n f.body {env:=aj 0 args,heap:=H,next:=d,marks:=[d]}with
  |none=>rw[g]at e;cases e
  |some q=>rw[g]at e;rw[j5 h k _ _ _ g];exact e
 .cases e
def Uk{a b:aI}(h:a.le b){n m:Nat}(g:n<=m){d:au}{args:List PV}{r:PV}(e:prun a n d args=some r):prun b m d args=some r:=by
 unfold prun at e⊢;cases f:jH a n d (args.map aQ) [] 0 with
 |none=>rw[f]at e;cases e
 |some q=>rw[f]at e;rw[H9 h g f];exact e
def F4(A:FuncId->Option au)(X:aI):∀n,(dG A X n).le (dG A X (n+1))
 |0=>by
  refine⟨?_,?_,?_,jE A X 1⟩
  .intro f args r h;simp only[dG]at h⊢;cases d:A f with
   |none=>rw[d]at h;exact h
   |some e=>rw[d]at h;cases h
  .intro f args H g r h;simp only[dG]at h⊢;cases d:A f with
   |none=>rw[d]at h;exact h
   |some e=>rw[d]at h;cases h
  .intro f args H g r h;simp only[dG]at h;cases h
 |n+1=>by
  have k:=F4 A X n;refine⟨?_,?_,?_,jE A X (n+2)⟩
  .intro f args r h;rw[dG]at h⊢;simp only at h⊢;cases d:A f with
   |none=>rw[d]at h;exact h
   |some e=>rw[d]at h;exact Uk k (iQ _) h
  .intro f args H g r h;rw[dG]at h⊢;simp only at h⊢;cases d:A f with
   |none=>rw[d]at h;exact h
   |some e=>rw[d]at h;exact H9 k (iQ _) h
  .intro f args H g r h;rw[dG]at h⊢;simp only at h⊢;cases d:A f with
   |none=>rw[d]at h;cases h
   |some e=>rw[d]at h;exact PN k (iQ _) h
def fN(A:FuncId->Option au)(X:aI){n m:Nat}(h:n<=m):(dG A X n).le (dG A X m):=by
 induction h with
 |refl=>exact aI.le.refl (jE A X n)
 |step _ d=>exact d.trans (F4 A X _)
structure dk where
 A:FuncId->Option au
 X:aI
def PS(T:dk)(f:FuncId)(args:List PV)(r:PV):Prop:=∃n,(dG T.A T.X n).pure f args=some r
def BS(T:dk)(f:FuncId)(args:List DV)(H:Heap)(e:Nat)(r:DV)(g:Heap)(d:Nat):Prop:=∃n,(dG T.A T.X n).de f args H e=some (r,g,d)
def DS(T:dk)(f:FuncId)(args:List DV)(H:Heap)(d:Nat)(v:PV)(e:Heap):Prop:=∃n,(dG T.A T.X n).dies f args H d=some (v,e)
def Qu(T:dk)(c:aC)(s:St)(e:Ex)(s':St):Prop:=∃n,aN (dG T.A T.X n) n c s=some (e,s')
def Qu.at{T:dk}{c:aC}{s:St}{e:Ex}{s':St}(h:Qu T c s e s'):∃n,∀m,n<=m->aN (dG T.A T.X m) m c s=some (e,s'):=by
 obtain⟨n,h⟩:=h;exact⟨n,λm d=>j5 (fN _ _ d) d _ _ _ h⟩
def Br(b:Bool)(x y:Prop):Prop:=(b=true->x)/\(b=false->y)
@[congr] theorem ZT {b d:Bool} {x y:Prop} (h:b=d):Br b x y=Br d x y:=by rw[h]
theorem tk{x y:Prop}:Br true x y=x:=by simp[Br]
def uy{x y:Prop}:Br false x y=y:=by simp[Br]
def mY{d:Type}(o:Option d)(K:d->Prop):Prop:=
 match o with
 |some r=>K r
 |none=>False
@[congr] theorem Yy {d:Type} {o e:Option d} {K:d->Prop} (h:o=e):mY o K=mY e K:=by rw[h]
theorem kX{d:Type}{a:d}{K:d->Prop}:mY (some a) K=K a:=rfl
def WL{d:Type}{o:Option d}{K:d->Prop}{a:d}(h:o=some a)(k:K a):mY o K:=by rw[h];exact k
def mo{d:Type}{o:Option d}{K:d->Prop}(h:mY o K):∃a,o=some a/\K a:=by
 cases o with
 |none=>exact h.elim
 |some a=>exact⟨a,rfl,h⟩
def jt(s:St):dN->Option (Bool×Option (FuncId×List DV))
 | .call d f args=>some (d,match gn s args with|some l=>some (f,l)|none=>none)
 | .eu d g args=>some (d,match s.ev g,gn s args with
  |some (.func f e),some l=>some (f,l++e)
  |some (.p (.func f e)),some l=>some (f,l++e.map aQ)
  |some (.kh f first),some l=>some (f,first++l)
  |_,_=>none)
 |_=>none
def jy(s:St)(d:Option Nat)(r:DV×Heap×Nat):St:={s with env:=dz s.env d r.1,heap:=r.2.1,next:=r.2.2}
def St.yE(s:St)(c:DO):Option Bool:=
 match s.ev c with
 |some (.p (.bool b))=>some b
 |_=>none
def tU(T:dk)(c:Bool×Option (FuncId×List DV))(H:Heap)(e:Nat)(K:DV×Heap×Nat->Prop):Prop:=
 match c with
 |(_,none)=>False
 |(true,some (f,l))=>∃r g d,BS T f l H e r g d/\K (r,g,d)
 |(false,some (f,l))=>mY (cl (bE H dep) l) λh=>∃r,PS T f h r/\K (aQ r,if r.plain then H else cY H (l.flatMap (eR H dep)),e)
def C1:dN->Option (FuncId×List DO)
 | .jZ f args=>some (f,args)
 |_=>none
def aat(T:dk)(f:FuncId)(args:List DO)(s:St)(K:DV×Heap×Nat->Prop):Prop:=
 mY (gn s args) λl=>∃v H n,BS T f l s.heap s.next v H n/\Nu s.heap s.next v H/\K (v,H,n)
def Bv(T:dk)(d:dN)(s:St)(K:DV×Heap×Nat->Prop):Prop:=
 match jt s d with
 |some c=>tU T c s.heap s.next K
 |none=>match C1 d with
  |some q=>aat T q.1 q.2 s K
  |none=>mY (bg lD d s) K
def ct(T:dk):List ai->St->(St->Prop)->Prop
 |[],s,K=>K s
 |o::r,s,K=>mY (gd o.guard s.env) λb=>Br b (Bv T o.op s λx=>ct T r (jy s o.dst x) K) (ct T r {s with env:=dz s.env o.dst (.tuple [])} K)
def Yd(d:List (Nat×Nat))(e:List ai)(g:List Nat)(n:Nat)(h f:St):Prop:=jg d e f.env=true/\canon n g f=some h
def DD(T:dk)(e:List ai)(d:List (Nat×Nat))(f:List Nat)(s g:St):List (List Nat)->Prop
 |[]=>True
 |l::r=>ct T (tt e l) s (Yd d e f s.next g)/\DD T e d f s g r
def Np(T:dk)(e:List ai)(d:List (Nat×Nat))(f:List Nat)(s:St)(K:St->Prop):List (List Nat)->Prop
 |[]=>False
 |l::r=>ct T (tt e l) s λg=>jg d e g.env=true/\mY (canon s.next f g) λh=>DD T e d f s h r/\K h
def mI(T:dk):List (ai×List Nat)->St->(St->Prop)->Prop
 |[],s,K=>K s
 |(o,k)::r,s,K=>ct T [o] s λs'=>mI T r {s' with env:=cT s'.env k} K
def oC(s:St)(o:ai):Option (FuncId×List DV):=
 match gd o.guard s.env,o.op with
 |some true,.call true f args=>match gn s args with
  |some l=>some (f,l)
  |none=>none
 |_,_=>none
def NQ(T:dk)(o:ai)(s:St)(K:PV->Heap->Prop):Prop:=∃f l v H,oC s o=some (f,l)/\DS T f l s.heap s.next v H/\K v H
def iH(T:dk):List (ai×List Nat)->St->(Ex->St->Prop)->Prop
 |[],s,K=>K .normal s
 |(o,k)::r,s,K=>(ct T [o] s λs'=>iH T r {s' with env:=cT s'.env k} K)\/NQ T o s λv H=>K (.panic v) {s with env:=[],heap:=H}
def BO(T:dk)(pre:List ai)(d:ai)(post:List ai)(s:St)(K:Ex->St->Prop):Prop:=
 ct T pre s λe=>(ct T [d] e λf=>ct T pre {s with heap:=f.heap,next:=f.next} λg=>g.env=e.env/\ct T post f λh=>K .normal h)\/
  NQ T d e λv H=>K (.panic v) {s with env:=[],heap:=H}
def nb(T:dk)(B:St->(Ex->St->Prop)->Prop)(f:List ai)(g:Nat)(hid:List Nat):List DV->St->(Ex->St->Prop)->Prop
 |[],s,K=>K .normal s
 |d::r,s,K=>ct T f {s with env:=fi s.env g d,marks:=[]} λh=>B h λe s'=>match e with
  | .normal=>nb T B f g hid r {s' with env:=cT s'.env hid,marks:=s.marks} K
  | .ret=>K .ret {s' with marks:=s.marks}
  | .panic v=>K (.panic v) {s' with marks:=s.marks}
  | .exit _=>False
def vZ(X:St->(Ex->St->Prop)->Prop)(K:Ex->St->Prop)(e:Ex)(s:St):Prop:=
 match e with
 | .normal=>X s K
 |e=>K e s
def W(T:dk):aC->St->(Ex->St->Prop)->Prop
 | .skip,s,K=>K .normal s
 | .region _ d f,s,K=>ct T d s λs'=>K .normal {s' with env:=cT s'.env f}
 | .seq a b,s,K=>W T a s λe s'=>match e with
  | .normal=>W T b s' K
  |e=>K e s'
 | .cond c x y,s,K=>mY (s.yE c) λb=>Br b (W T x s K) (W T y s K)
 | .block id c,s,K=>W T c s λe s'=>match e with
  | .exit n=>if n=id then K .normal s' else K (.exit n) s'
  |e=>K e s'
 | .loop c,s,K=>∃e s',Qu T (.loop c) s e s'/\K e s'
 | .exit id,s,K=>K (.exit id) s
 | .ret,s,K=>K .ret s
 | .ghost g c,s,K=>mY (eU g s) λs'=>W T c s' K
 | .after c l,s,K=>W T c s (vZ (λs' K=>mY (eU (.free l) s') λu=>K .normal u) K)
 | .aT _ d,s,K=>mI T d s λs'=>K .normal s'
 | .iI h d f,s,K=>ct T d s λs'=>jg h d s'.env=true/\K .normal {s' with env:=cT s'.env f}
 | .ob h _ p d A f,s,K=>Np T d h A s (λw=>K .normal {w with env:=cT w.env f}) p
 | .aS d,s,K=>iH T d s K
 | .j2 pre q post f,s,K=>BO T pre q post s λe s'=>K e {s' with env:=cT s'.env f}
 | .panic d x,s,K=>ct T d s λs'=>∃t v,s'.ev x=some (.p (.iface t v))/\K (.panic (.iface t v)) {s' with env:=[]}
 | .forIn str m hid d x y z,s,K=>match str,hid with
  |true,B::k::C=>∃b,ah s.env m=some (.p (.str b))/\hid.all (λt=>(ah s.env t).isNone)=true/\
   nb T (W T x) d k hid ((runesFrom b (b.size+1) 0).map lR) s (vZ (W T y) (vZ (W T z) K))
  |false,B::k::C=>∃c D r u,zJ s m hid=some c/\eX c D/\
   (∀l:List (ByteArray×MV),eX c l->nb T (W T x) d k hid (l.map λe=>jR e.1 e.2) s (vZ (W T y) λe s'=>e=r/\s'=u))/\vZ (W T z) K r u
  |_,_=>False
 | .native _ _ _,_,_=>False
def Gu{T:dk}{d:Bool}{q:Option (FuncId×List DV)}{H:Heap}{m:Nat}{K:DV×Heap×Nat->Prop}(h:tU T (d,q) H m K):
  ∃f l,q=some (f,l)/\∃r n,iU (dG T.A T.X n) d f l H m=some r/\K r:=by
 unfold tU at h;split at h
 .exact h.elim
 .rename_i e;cases e;obtain⟨r,u,p,⟨n,g⟩,k⟩:=h;exact⟨_,_,rfl,_,n,by simp[iU,g],k⟩
 .rename_i e;cases e;obtain⟨v,t,r,⟨n,g⟩,k⟩:=mo h;exact⟨_,_,rfl,_,n,by simp[iU,t,g],k⟩
def MB{T:dk}{d:dN}{s:St}{K:DV×Heap×Nat->Prop}(h:Bv T d s K):∃r n,bg (dG T.A T.X n) d s=some r/\K r:=by
 unfold Bv at h;cases g:jt s d with
 |none=>
  rw[g]at h;simp only at h;cases u:C1 d with
  |none=>
   rw[u]at h;simp only at h;obtain⟨r,y,h⟩:=mo h;exact⟨r,0,Ha (IB (jE _ _ _)) y,h⟩
  |some q=>
   rw[u]at h;simp only at h;cases d<;>simp only[C1,aw,reduceCtorEq]at u
   subst u;obtain⟨l,m,v,H,n,⟨k,w⟩,p,z⟩:=mo h;refine⟨(v,H,n),k,?_,z⟩;simp only[bg,m,w];rw[aq p]
 |some c=>
  rw[g]at h;obtain⟨x,q⟩:=c;obtain⟨f,l,rfl,r,n,e,w⟩:=Gu h;refine⟨r,n,?_,w⟩;cases d<;>simp only[jt,aw,bQ,reduceCtorEq]at g
  .obtain⟨rfl,g⟩:=g;simp only[bg];split at g
   .rename_i A;rw[A];cases g;exact e
   .cases g
  .obtain⟨rfl,g⟩:=g;simp only[bg];split at g
   .rename_i t m;cases g;rw[t,m];exact e
   .rename_i t m;cases g;rw[t,m];exact e
   .rename_i t m;cases g;rw[t,m];exact e
   .cases g
def eV{T:dk}:∀(l:List ai) (s:St) (K:St->Prop),ct T l s K->∃s' n,bR (dG T.A T.X n) l s=some s'/\K s'
 |[],s,K,h=>⟨s,0,rfl,h⟩
 |o::r,s,K,h=>by
  simp only[ct]at h;obtain⟨b,k,h⟩:=mo h
  .cases b with
   |true=>
    rw[tk]at h;obtain⟨x,n,m,p⟩:=MB h;obtain⟨s',d,f,e⟩:=eV r _ K p;refine⟨s',max n d,?_,e⟩;have g:cM (dG T.A T.X (max n d)) o s=some (jy s o.dst x):=by
     unfold cM;rw[k];simp only;rw[Ha (fN _ _ (lZ n d)) m];rfl
    simp only[bR,g];exact ig (fN _ _ (lU n d)) _ _ _ f
   |false=>
    rw[uy]at h;obtain⟨s',d,f,e⟩:=eV r _ K h;refine⟨s',d,?_,e⟩;have g:cM (dG T.A T.X d) o s=some {s with env:=dz s.env o.dst (.tuple [])}:=by
     unfold cM;rw[k]
    simp only[bR,g];exact f
def AR{T:dk}{f:List ai}{d:List (Nat×Nat)}{q:List Nat}{s t:St}:∀(r:List (List Nat)),DD T f d q s t r->∃n,∀m,n<=m->∀k∈r,∃g,bR (dG T.A T.X m) (tt f k) s=some g/\jg d f g.env=true/\canon s.next q g=some t
 |[],_=>⟨0,λ_ _ _ h=>by simp at h⟩
 |l::r,h=>by
  simp only[DD]at h;obtain⟨u,v⟩:=h;obtain⟨g,w,k1,k2,k3⟩:=eV _ _ _ u;obtain⟨x,y⟩:=AR r v;refine⟨max w x,λm z k p=>?_⟩;rcases List.mem_cons.1 p with e|e
  .subst e;exact⟨g,ig (fN T.A T.X ae) _ _ _ k1,k2,k3⟩
  .exact y m ae k e
def HS{T:dk}{f:List ai}{d:List (Nat×Nat)}{q:List Nat}{s:St}{K:St->Prop}:∀{e:List (List Nat)},Np T f d q s K e->∃g n,vp (dG T.A T.X n) f d q e s=some g/\K g
 |[],h=>h.elim
 |l::r,h=>by
  simp only[Np]at h;obtain⟨x,k,k1,k2,k3⟩:=eV _ _ _ h;obtain⟨g,t,k4,u⟩:=mo k3;obtain⟨m,v⟩:=AR r k4;refine⟨g,max k m,?_,u⟩;unfold vp;simp only[ig (fN T.A T.X (lZ k m)) _ _ _ k1,k2,bZ,t];rw[aq λw p=>v _ (lU k m) w p]
def yB{T:dk}:∀(l:List (ai×List Nat)) (s:St) (K:St->Prop),mI T l s K->∃s' n,ox (dG T.A T.X n) l s=some s'/\K s'
 |[],s,K,h=>⟨s,0,rfl,h⟩
 |(o,k)::r,s,K,h=>by
   simp only[mI]at h;obtain⟨t,n,d,f⟩:=eV [o] s _ h;obtain⟨g,m,p,q⟩:=yB r _ K f;simp only[bR]at d;cases e:cM (dG T.A T.X n) o s with
   |none=>rw[e]at d;cases d
   |some u=>
    rw[e]at d;simp only[aw]at d;subst d;exact⟨g,max n m,by simp only[ox];rw[pE (fN _ _ (lZ n m)) e];exact zM (fN _ _ (lU n m)) _ _ _ p,q⟩
def SV{d:aI}{o:ai}{s e:St}(h:bR d [o] s=some e):cM d o s=some e:=by
 simp only[bR]at h;cases f:cM d o s with
 |none=>rw[f]at h;cases h
 |some g=>rw[f]at h;exact h
def Bl{T:dk}{o:ai}{s:St}{K:PV->Heap->Prop}(h:NQ T o s K):∃v H n,(∀m,n<=m->dieOf (dG T.A T.X m) o s=some (v,H)/\cM (dG T.A T.X m) o s=none)/\K v H:=by
 obtain⟨f,l,v,H,d,⟨n,g⟩,k⟩:=h;refine⟨v,H,n,λm p=>?_,k⟩;have q:dieOf (dG T.A T.X n) o s=some (v,H):=by
  unfold oC at d;unfold dieOf;split at d
  .rename_i w args t u;cases e:gn s args with
   |none=>rw[e]at d;cases d
   |some x=>
    rw[e]at d;simp only[aw,bQ]at d;obtain⟨rfl,rfl⟩:=d;simp only[t,u,e,g]
  .cases d
 exact wz (fN _ _ p) q
def xH{T:dk}:∀(l:List (ai×List Nat)) (s:St) (K:Ex->St->Prop),iH T l s K->∃e s' n,oE (dG T.A T.X n) l s=some (e,s')/\K e s'
 |[],s,K,h=>⟨.normal,s,0,rfl,h⟩
 |(o,k)::r,s,K,h=>by
   simp only[iH]at h;rcases h with h|h
   .obtain⟨t,n,d,f⟩:=eV [o] s _ h;obtain⟨e,q,m,g,p⟩:=xH r _ K f;exact⟨e,q,max n m,by simp only[oE];rw[pE (fN _ _ (lZ n m)) (SV d)];exact zK (fN _ _ (lU n m)) _ _ _ g,p⟩
   .obtain⟨v,H,n,d,f⟩:=Bl h;obtain⟨g,p⟩:=d n (Nat.le_refl _);exact⟨.panic v,_,n,by simp only[oE];rw[p,g],f⟩
def EF{T:dk}{pre:List ai}{d:ai}{post:List ai}{s:St}{K:Ex->St->Prop}(h:BO T pre d post s K):∃e s' n,lQ (dG T.A T.X n) pre d post s=some (e,s')/\K e s':=by
 obtain⟨x,f,w,h⟩:=eV pre s _ h;rcases h with h|h
 .obtain⟨y,g,m,h⟩:=eV [d] x _ h;obtain⟨D,k,z,A,h⟩:=eV pre _ _ h;obtain⟨B,l,C,p⟩:=eV post y _ h;refine⟨.normal,B,max (max f g) (max k l),?_,p⟩;have q:=ig (fN T.A T.X (show f<=max (max f g) (max k l) by omega)) _ _ _ w;have t:=pE (fN T.A T.X (show g<=max (max f g) (max k l) by omega)) (SV m);have u:=ig (fN T.A T.X (show k<=max (max f g) (max k l) by omega)) _ _ _ z;have a4:=ig (fN T.A T.X (show l<=max (max f g) (max k l) by omega)) _ _ _ C;simp only[lQ,q,t,u,a4,aq A]
 .obtain⟨v,H,g,m,p⟩:=Bl h;refine⟨.panic v,_,max f g,?_,p⟩;have q:=ig (fN T.A T.X (show f<=max f g by omega)) _ _ _ w;obtain⟨t,u⟩:=m (max f g) ae;simp only[lQ,q,t,u]
def te{T:dk}{x:aC}{f:List ai}{g:Nat}{hid:List Nat}(y:∀(s:St) (K:Ex->St->Prop),W T x s K->∃e s',Qu T x s e s'/\K e s'):∀(l:List DV) (s:St) (K:Ex->St->Prop),nb T (W T x) f g hid l s K->∃e s' n,(∀m,n<=m->dW (eO (dG T.A T.X m) f (aN (dG T.A T.X m) m x)) g hid l s=some (e,s'))/\K e s'
 |[],s,K,h=>⟨.normal,s,0,λ_ _=>rfl,h⟩
 |d::r,s,K,h=>by
  simp only[nb]at h;obtain⟨D,q,z,h⟩:=eV f _ _ h;obtain⟨e,s',t,k⟩:=y _ _ h;obtain⟨u,t⟩:=t.at;have p:∀m,max q u<=m->eO (dG T.A T.X m) f (aN (dG T.A T.X m) m x) {s with env:=fi s.env g d,marks:=[]}=some (e,s'):=by
   intro m w;unfold eO;rw[ig (fN T.A T.X (show q<=m by omega)) _ _ _ z];exact t m ae
  cases e with
  |exit id=>exact k.elim
  |ret|panic v=>exact⟨_,_,max q u,λm w=>by simp only[dW,p m w],k⟩
  |normal=>
   obtain⟨e,A,B,C,k⟩:=te y r _ K k;exact⟨e,A,max (max q u) B,λm w=>by simp only[dW,p m ae];exact C m ae,k⟩
def EX{q:Type}(A:List q):∀(k:Nat) (P:List q->Nat->Prop),(∀l n m,n<=m->P l n->P l m)->(∀l,l.length=k->(∀x∈l,x∈A)->∃n,P l n)->∃n,∀l,l.length=k->(∀x∈l,x∈A)->P l n
 |0,P,_,h=>by
  obtain⟨n,t⟩:=h [] rfl (λ_ d=>by cases d);exact⟨n,λl f _=>by rw[List.eq_nil_of_length_eq_zero f];exact t⟩
 |k+1,P,e,h=>by
  have C:∀B:List q,(∀x∈B,x∈A)->∃n,∀x∈B,∀l,l.length=k->(∀y∈l,y∈A)->P (x::l) n:=by
   intro B;induction B with
   |nil=>exact λ_=>⟨0,λ_ d=>by cases d⟩
   |cons b B D=>
    intro z;obtain⟨u,E⟩:=D λx d=>z x (List.mem_cons_of_mem _ d)
    obtain⟨v,F⟩:=EX A k (λl n=>P (b::l) n) (λl n m w G=>e _ _ _ w G) λl f g=>h (b::l) (by simp[f]) λy p=>by
     rcases List.mem_cons.1 p with rfl|p
     .exact z _ List.mem_cons_self
     .exact g y p
    refine⟨max u v,λx d l f g=>?_⟩;rcases List.mem_cons.1 d with rfl|d
    .exact e _ _ _ (lU u v) (F l f g)
    .exact e _ _ _ (lZ u v) (E x d l f g)
  obtain⟨n,t⟩:=C A λ_ d=>d
  refine⟨n,λl f g=>?_⟩;cases l with
  |nil=>simp at f
  |cons x l=>exact t x (g x List.mem_cons_self) l (by simpa using f) λy p=>g y (List.mem_cons_of_mem _ p)
def eX.length{f:SM}{l g:List (ByteArray×MV)}(h:eX f l)(m:eX f g):l.length=g.length:=by
 have n:l.Perm g:=(List.perm_ext_iff_of_nodup (List.Pairwise.of_map _ (λa b d=>by intro e;exact d (by rw[e])) h.1) (List.Pairwise.of_map _ (λa b d=>by intro e;exact d (by rw[e])) m.1)).2 λe=>by
  obtain⟨k,y⟩:=e;rw[h.2,m.2]
 exact n.length_eq
def oq{T:dk}:∀(c:aC) (s:St) (K:Ex->St->Prop),W T c s K->∃e s',Qu T c s e s'/\K e s':=by
 intro c;induction c with
 |skip=>intro s K h;exact⟨.normal,s,⟨0,rfl⟩,h⟩
 |native k fs z=>intro s K h;simp only[W]at h
 |aS p=>
  intro s K h;simp only[W]at h;obtain⟨e,s',n,u,f⟩:=xH p s _ h;exact⟨e,s',⟨n,by simp only[aN,u]⟩,f⟩
 |j2 pre xb post kill=>
  intro s K h;simp only[W]at h;obtain⟨e,s',n,u,f⟩:=EF h;exact⟨e,_,⟨n,by simp only[aN,u]⟩,f⟩
 |panic p x=>
  intro s K h;simp only[W]at h;obtain⟨s',n,u,t,v,hx,f⟩:=eV p s _ h;exact⟨_,_,⟨n,by simp only[aN,u,hx]⟩,f⟩
 |forIn str mm hid p x y z E F P=>
  intro s K h;simp only[W]at h;split at h
  .rename_i it A u;obtain⟨b,I,q,h⟩:=h;obtain⟨e,C,w,G,f⟩:=te E _ _ _ h;cases e with
   |normal=>
    obtain⟨e,J,D,f⟩:=F _ _ f;obtain⟨B,D⟩:=D.at;cases e with
    |normal=>
     obtain⟨e,s3,M,f⟩:=P _ _ f;obtain⟨N,M⟩:=M.at;exact⟨e,s3,⟨max (max w B) N,by simp only[aN,I,q,bZ,G _ (show w<=max (max w B) N by omega),D _ (show B<=max (max w B) N by omega)];exact M _ ae⟩,f⟩
    |exit id|ret|panic v=>exact⟨_,J,⟨max w B,by simp only[aN,I,q,bZ,G _ (lZ w B),D _ (lU w B)]⟩,f⟩
   |exit id|ret|panic v=>exact⟨_,C,⟨w,by simp only[aN,I,q,bZ,G _ (Nat.le_refl _)]⟩,f⟩
  .rename_i it A u;obtain⟨c,l0,r,J,hc,O,R,f⟩:=h;have S:∀l,eX c l->∃n,∀m,n<=m->kO (eO (dG T.A T.X m) p (aN (dG T.A T.X m) m x)) (aN (dG T.A T.X m) m y) A (it::A::u) l s=some (r,J):=by
    intro l U;obtain⟨e,C,w,G,V⟩:=te E _ _ _ (R l U);cases e with
    |normal=>
     obtain⟨e,s3,D,L,x5⟩:=F _ _ V;subst L;subst x5;obtain⟨B,D⟩:=D.at;exact⟨max w B,λm hm=>by unfold kO;rw[G m ae];exact D m ae⟩
    |exit id|ret|panic v=>obtain⟨rfl,rfl⟩:=V;exact⟨w,λm hm=>by unfold kO;rw[G m hm]⟩
   obtain⟨n,q⟩:=EX l0 l0.length (λl n=>eX c l->∀m,n<=m->kO (eO (dG T.A T.X m) p (aN (dG T.A T.X m) m x)) (aN (dG T.A T.X m) m y) A (it::A::u) l s=some (r,J)) (λl n m xf hp L k f=>hp L k ae) (λl _ _=>by
    by_cases L:eX c l
    .obtain⟨n,q⟩:=S l L;exact⟨n,λ_=>q⟩
    .exact⟨0,λh=>absurd h L⟩)
   have X:∀m,n<=m->mS (eO (dG T.A T.X m) p (aN (dG T.A T.X m) m x)) (aN (dG T.A T.X m) m y) s mm A (it::A::u)=some (r,J):=λm hm=>AY hc ⟨l0,O⟩ λl U=>q l (U.length O) (λe L=>(O.2 e.1 e.2).2 ((U.2 e.1 e.2).1 L)) U m hm
   cases r with
   |normal=>
    obtain⟨e,s3,M,f⟩:=P _ _ f;obtain⟨N,M⟩:=M.at;exact⟨e,s3,⟨max n N,by simp only[aN,X _ (lZ n N)];exact M _ (lU n N)⟩,f⟩
   |exit id|ret|panic v=>exact⟨_,J,⟨n,by simp only[aN,X _ (Nat.le_refl _)]⟩,f⟩
  .exact h.elim
 |aT d p=>
  intro s K h;simp only[W]at h;obtain⟨s',n,u,f⟩:=yB p s _ h;exact⟨_,_,⟨n,by simp only[aN,u]⟩,f⟩
 |ret=>intro s K h;exact⟨.ret,s,⟨0,rfl⟩,h⟩
 |exit id=>intro s K h;exact⟨.exit id,s,⟨0,rfl⟩,h⟩
 |loop c _=>intro s K h;exact h
 |after c l Y=>
  intro s K h;simp only[W]at h;obtain⟨e,C,⟨n,q⟩,f⟩:=Y s _ h;cases e with
  |normal=>
   simp only[vZ]at f;obtain⟨J,hg,f⟩:=mo f;exact⟨.normal,J,⟨n,by simp only[aN,q,hg]⟩,f⟩
  |exit id|ret|panic v=>exact⟨_,C,⟨n,by simp only[aN,q]⟩,f⟩
 |ghost g c Y=>
  intro s K h;simp only[W]at h;obtain⟨C,hg,h⟩:=mo h
  .obtain⟨e,s',⟨n,q⟩,f⟩:=Y C K h;exact⟨e,s',⟨n,by simp only[aN,hg];exact q⟩,f⟩
 |region d p kill=>
  intro s K h;simp only[W]at h;obtain⟨s',n,u,f⟩:=eV p s _ h;exact⟨_,_,⟨n,by simp only[aN,u]⟩,f⟩
 |iI Z p kill=>
  intro s K h;simp only[W]at h;obtain⟨s',n,u,hq,f⟩:=eV p s _ h;exact⟨_,_,⟨n,by simp only[aN,u,hq,bZ]⟩,f⟩
 |ob Z rk xc p ks kill=>
  intro s K h;simp only[W]at h;obtain⟨C,n,u,f⟩:=HS h;exact⟨_,_,⟨n,by simp only[aN,u]⟩,f⟩
 |seq a b x7 x8=>
  intro s K h;simp only[W]at h;obtain⟨e,C,G,f⟩:=x7 s _ h;cases e with
  |normal=>
   obtain⟨e,s',D,x9⟩:=x8 C K f;obtain⟨w,g1⟩:=G.at;obtain⟨B,g2⟩:=D.at;exact⟨e,s',⟨max w B,by simp only[aN,g1 _ (lZ w B)];exact g2 _ (lU w B)⟩,x9⟩
  |exit id|ret|panic v=>obtain⟨w,g1⟩:=G;exact⟨_,_,⟨w,by simp only[aN,g1]⟩,f⟩
 |cond o x y E F=>
  intro s K h;simp only[W]at h;obtain⟨b,I,h⟩:=mo h;have hv:s.ev o=some (.p (.bool b)):=by
   unfold St.yE at I;split at I
   .rename_i hv;cases I;exact hv
   .cases I
  .cases b with
   |true=>
    rw[tk]at h;obtain⟨e,s',⟨n,q⟩,f⟩:=E s K h;exact⟨e,s',⟨n,by simp only[aN,hv];exact q⟩,f⟩
   |false=>
    rw[uy]at h;obtain⟨e,s',⟨n,q⟩,f⟩:=F s K h;exact⟨e,s',⟨n,by simp only[aN,hv];exact q⟩,f⟩
 |block id c Y=>
  intro s K h;simp only[W]at h;obtain⟨e,C,⟨n,q⟩,f⟩:=Y s _ h;cases e with
  |normal|ret|panic v=>exact⟨_,_,⟨n,by simp only[aN,q]⟩,f⟩
  |exit k=>
   simp only at f;by_cases H:k=id
   .rw[aq H]at f;exact⟨_,_,⟨n,by simp only[aN,q,aq H]⟩,f⟩
   .rw[an H]at f;exact⟨_,_,⟨n,by simp only[aN,q,an H]⟩,f⟩
def I2{T:dk}{c:aC}{s g:St}{e:Ex}{K:Ex->St->Prop}(x:Qu T c s e g)(l:match(generalizing:=false) e with
  | .normal=>W T (.loop c) g K
  |e=>K e g):W T (.loop c) s K:=by
 obtain⟨d,m⟩:=x.at;cases e with
 |normal=>
  obtain⟨e,s',y,n⟩:=l;obtain⟨f,z⟩:=y.at;refine⟨e,s',⟨max d f+1,?_⟩,n⟩;have A:=m (max d f+1) ae;have w:=z (max d f) ae;simp only[aN]at w⊢;rw[ky,A];simp only;have p:∀(k:Nat) (s:St),ky (aN (dG T.A T.X (max d f)) (max d f) c) k s=some (e,s')->ky (aN (dG T.A T.X (max d f+1)) (max d f+1) c) k s=some (e,s'):=by
   intro k;induction k with
   |zero=>intro s h;simp[ky]at h
   |succ k B=>
    intro s h;simp only[ky]at h⊢;cases t:aN (dG T.A T.X (max d f)) (max d f) c s with
    |none=>rw[t]at h;cases h
    |some q=>
     rw[t]at h;rw[j5 (fN _ _ (iQ _)) (iQ _) _ _ _ t];obtain⟨C,u⟩:=q;cases C with
     |normal=>exact B u h
     |exit id|ret|panic v=>exact h
  exact p _ _ w
 |exit id=>
  refine⟨.exit id,g,⟨d+1,?_⟩,l⟩;simp only[aN];rw[ky,m (d+1) ae]
 |ret=>
  refine⟨.ret,g,⟨d+1,?_⟩,l⟩;simp only[aN];rw[ky,m (d+1) ae]
 |panic v=>
  refine⟨.panic v,g,⟨d+1,?_⟩,l⟩;simp only[aN];rw[ky,m (d+1) ae]
def WE{T:dk}{c:aC}{s:St}{K:Ex->St->Prop}(h:W T c s λe s'=>match e with
  | .normal=>W T (.loop c) s' K
  |e=>K e s'):W T (.loop c) s K:=by
 obtain⟨e,g,d,f⟩:=oq c s _ h;exact I2 d f
def LI(I:Nat->St->Prop)(m:Nat)(K:Ex->St->Prop)(e:Ex)(s:St):Prop:=
 match e with
 | .normal=>∃d,d<m/\I d s
 |e=>K e s
def Uw{I:Nat->St->Prop}{m:Nat}{K:Ex->St->Prop}{s:St}{i:Nat}:LI I m K (.exit i) s=K (.exit i) s:=rfl
def Vy{I:Nat->St->Prop}{m:Nat}{K:Ex->St->Prop}{s:St}:LI I m K .ret s=K .ret s:=rfl
def Qt{I:Nat->St->Prop}{m:Nat}{K:Ex->St->Prop}{s:St}{v:PV}:LI I m K (.panic v) s=K (.panic v) s:=rfl
def LI.next{I:Nat->St->Prop}{m m':Nat}{K:Ex->St->Prop}{s:St}(h:m'<m)(d:I m' s):LI I m K .normal s:=⟨m',h,d⟩
def bU{T:dk}{c:aC}{K:Ex->St->Prop}(I:Nat->St->Prop)(h:∀m s,I m s->W T c s (LI I m K))(m:Nat)(s:St)(g:I m s):W T (.loop c) s K:=by
 induction m using Nat.strongRecOn generalizing s with
 |ind m k=>
  obtain⟨e,l,n,f⟩:=oq c s _ (h m s g);refine I2 n ?_;cases e with
  |normal=>obtain⟨p,q,d⟩:=f;exact k p q l d
  |exit _|ret|panic _=>exact f
def LK(T:dk)(c:aC)(K:Ex->St->Prop)(e:Ex)(s:St):Prop:=
 match e with
 | .normal=>W T (.loop c) s K
 |e=>K e s
def dY{T:dk}{c:aC}{s:St}{K:Ex->St->Prop}(h:W T c s (LK T c K)):W T (.loop c) s K:=WE h
def Uj{T:dk}{c:aC}{K:Ex->St->Prop}{s:St}{i:Nat}:LK T c K (.exit i) s=K (.exit i) s:=rfl
def OX{T:dk}{c:aC}{K:Ex->St->Prop}{s:St}{v:PV}:LK T c K (.panic v) s=K (.panic v) s:=rfl
def Vd{T:dk}{c:aC}{K:Ex->St->Prop}{s:St}:LK T c K .ret s=K .ret s:=rfl
def SK(T:dk)(b:aC)(K:Ex->St->Prop)(e:Ex)(s:St):Prop:=
 match e with
 | .normal=>W T b s K
 |e=>K e s
def BZ(T:dk)(b:aC)(K:Ex->St->Prop):SK T b K=vZ (W T b) K:=by
 funext e s;cases e<;>rfl
def L5{T:dk}{c:aC}{K:Ex->St->Prop}{s:St}:SK T c K .normal s=W T c s K:=rfl
def RQ{T:dk}{c:aC}{K:Ex->St->Prop}{s:St}{i:Nat}:SK T c K (.exit i) s=K (.exit i) s:=rfl
def P4{T:dk}{c:aC}{K:Ex->St->Prop}{s:St}{v:PV}:SK T c K (.panic v) s=K (.panic v) s:=rfl
def WS{T:dk}{c:aC}{K:Ex->St->Prop}{s:St}:SK T c K .ret s=K .ret s:=rfl
def BK(id:Nat)(K:Ex->St->Prop)(e:Ex)(s:St):Prop:=
 match e with
 | .exit d=>if d=id then K .normal s else K (.exit d) s
 |e=>K e s
def Nh{i:Nat}{K:Ex->St->Prop}{s:St}:BK i K .normal s=K .normal s:=rfl
def Se{K:Ex->St->Prop}{s:St}{i j:Nat}:BK i K (.exit j) s=if j=i then K .normal s else K (.exit j) s:=rfl
def Qh{i:Nat}{K:Ex->St->Prop}{s:St}{v:PV}:BK i K (.panic v) s=K (.panic v) s:=rfl
def VH{i:Nat}{K:Ex->St->Prop}{s:St}:BK i K .ret s=K .ret s:=rfl
@[congr] theorem aaz {T:dk} {c:aC} {s s':St} {K:Ex->St->Prop} (h:s=s'):W T c s K=W T c s' K:=by rw[h]
@[congr] theorem Xu {T:dk} {l:List ai} {s s':St} {K:St->Prop} (h:s=s'):ct T l s K=ct T l s' K:=by rw[h]
@[congr] theorem Yv {T:dk} {d:dN} {s s':St} {K:DV×Heap×Nat->Prop} (h:s=s'):Bv T d s K=Bv T d s' K:=by rw[h]
@[congr] theorem VS {T:dk} {c d:Bool×Option (FuncId×List DV)} {H e:Heap} {n f:Nat} {K:DV×Heap×Nat->Prop} (g:c=d) (h:H=e) (k:n=f):tU T c H n K=tU T d e f K:=by rw[h,g,k]
@[congr] theorem ZQ {T:dk} {c:aC} {e d:Ex} {s s':St} {K:Ex->St->Prop} (f:e=d) (h:s=s'):SK T c K e s=SK T c K d s':=by rw[h,f]
@[congr] theorem ZJ {T:dk} {c:aC} {e d:Ex} {s s':St} {K:Ex->St->Prop} (f:e=d) (h:s=s'):LK T c K e s=LK T c K d s':=by rw[h,f]
@[congr] theorem ZH {I:Nat->St->Prop} {m:Nat} {e d:Ex} {s s':St} {K:Ex->St->Prop} (f:e=d) (h:s=s'):LI I m K e s=LI I m K d s':=by rw[h,f]
@[congr] theorem ZU {i:Nat} {e d:Ex} {s s':St} {K:Ex->St->Prop} (f:e=d) (h:s=s'):BK i K e s=BK i K d s':=by rw[h,f]
theorem Vx{T:dk}{s:St}{K:Ex->St->Prop}:W T .skip s K=K .normal s:=rfl
def Y8{T:dk}{s:St}{K:Ex->St->Prop}:W T .ret s K=K .ret s:=rfl
def Wz{T:dk}{i:Nat}{s:St}{K:Ex->St->Prop}:W T (.exit i) s K=K (.exit i) s:=rfl
def X2{T:dk}{a b:aC}{s:St}{K:Ex->St->Prop}:W T (.seq a b) s K=W T a s (SK T b K):=rfl
def Tc{T:dk}{i:Nat}{a:aC}{s:St}{K:Ex->St->Prop}:W T (.block i a) s K=W T a s (BK i K):=rfl
def Wg{T:dk}{c:DO}{x y:aC}{s:St}{K:Ex->St->Prop}:W T (.cond c x y) s K=mY (s.yE c) λb=>Br b (W T x s K) (W T y s K):=rfl
def UP{T:dk}{g:DJ}{c:aC}{s:St}{K:Ex->St->Prop}:W T (.ghost g c) s K=mY (eU g s) λs'=>W T c s' K:=rfl
def RH{T:dk}{c:aC}{l:List Nat}{s:St}{K:Ex->St->Prop}:W T (.after c l) s K=W T c s (SK T (.ghost (.free l) .skip) K):=by rw[BZ];rfl
def OQ{T:dk}{d:Bool}{f:List ai}{e:List Nat}{s:St}{K:Ex->St->Prop}:W T (.region d f e) s K=ct T f s λs'=>K .normal {s' with env:=cT s'.env e}:=rfl
def ic(d:List gm)(R:DV->St->Prop)(e:Ex)(s:St):Prop:=(e=.normal\/e=.ret)/\∃v,fy s d=some v/\R v s
@[congr] theorem Xs {d:List gm} {R:DV->St->Prop} {e f:Ex} {s s':St} (g:e=f) (h:s=s'):ic d R e s=ic d R f s':=by rw[h,g]
theorem O1{d:List gm}{R:DV->St->Prop}{s:St}:ic d R .ret s=mY (fy s d) λv=>R v s:=by
 unfold ic mY;cases fy s d<;>simp
def GK{d:List gm}{R:DV->St->Prop}{s:St}:ic d R .normal s=mY (fy s d) λv=>R v s:=by
 unfold ic mY;cases fy s d<;>simp
def mG{d:aI}{n:Nat}{c:aC}{s:St}{r:Ex×St}(h:aN d n c s=some r):gU c=none:=by
 cases c<;>first|rfl|(simp only[aN]at h;cases h)
def bM{T:dk}{f:FuncId}{af:au}(k:T.A f=some af){args:List PV}{r:PV}(l:args.length=af.nparams)
  (h:W T af.body {env:=aj 0 (args.map aQ),heap:=[],next:=0,marks:=[0]} (ic af.results λv s=>bE s.heap dep v=some r))(d:af.rs=false:=by rfl):PS T f args r:=by
 obtain⟨e,s',m,p,v,q,t⟩:=oq _ _ _ h;obtain⟨n,u⟩:=m.at;refine⟨n+1,?_⟩;rw[dG];simp only[k];have g:=j5 (aI.le.refl (jE T.A T.X n)) (iQ n) _ _ _ (u n (Nat.le_refl _));unfold prun jH pz;rw[mG g,d];simp only;rw[aq (by simpa using l),g];rcases p with rfl|rfl<;>simp only[q,t,Bool.false_eq_true,cy]
def zD{T:dk}{f:FuncId}{af:au}(p:T.A f=some af){args:List DV}{H:Heap}{g:Nat}{r:DV}{l:Heap}{d:Nat}(q:args.length=af.nparams)
  (h:W T af.body {env:=aj 0 args,heap:=H,next:=g,marks:=[g]} (ic af.results λv s=>v=r/\s.heap=l/\s.next=d))(k:af.rs=false:=by rfl):BS T f args H g r l d:=by
 obtain⟨e,s',t,u,v,w,rfl,rfl,rfl⟩:=oq _ _ _ h;obtain⟨n,x⟩:=t.at;refine⟨n+1,?_⟩;rw[dG];simp only[p];have m:=j5 (aI.le.refl (jE T.A T.X n)) (iQ n) _ _ _ (x n (Nat.le_refl _));unfold jH pz;rw[mG m,k];simp only;rw[aq q,m];rcases u with rfl|rfl<;>simp only[w,Bool.false_eq_true,cy]
def CS(T:dk)(f:FuncId)(args:List DV)(H:Heap)(g:Nat):(DV×Heap×Nat)⊕(PV×Heap)->Prop
 | .inl (r,d,e)=>BS T f args H g r d e
 | .inr (v,d)=>DS T f args H g v d
def cL(c:Nat):Heap->Bool
 |[]=>true
 |(_,b)::r=>b.below c&&cL c r
def mq(c:Nat):∀H:Heap,H.all (λx=>x.2.below c)=cL c H
 |[]=>rfl
 |(k,b)::r=>by rw[List.all_cons,mq c r];rfl
def Lw(c:Nat)(s:St):jc c s=if s.env.all (λx=>below c dep x.2)&&cL c (az c s.heap)&&decide (c<=s.next)then some {s with heap:=az c s.heap,next:=c}else none:=by
 unfold jc;rw[<-mq]
def Left(d:Nat)(e:Heap)(s:St):Prop:=cL d (az d s.heap)=true/\d<=s.next/\az d s.heap=e
def Fin(h:List gm)(d:Nat)(o:(DV×Heap×Nat)⊕(PV×Heap))(e:Ex)(s:St):Prop:=
 match o with
 | .inl (r,f,g)=>ic h (λv s=>v=r/\g=d/\below d dep v=true/\Left d f s) e s
 | .inr (v,f)=>e=.panic v/\Left d f s
def fZ{T:dk}{f:FuncId}{af:au}(q:T.A f=some af){args:List DV}{H:Heap}{g:Nat}{o:(DV×Heap×Nat)⊕(PV×Heap)}(t:args.length=af.nparams)
  (h:W T af.body {env:=aj 0 args,heap:=H,next:=g,marks:=[g]} (Fin af.results g o))(l:af.rs=true:=by rfl):CS T f args H g o:=by
 obtain⟨r,w,x⟩|⟨v,w⟩:=o
 .obtain⟨e,s',m,y,v,z,rfl,rfl,k,u,A,rfl⟩:=oq _ _ _ h;rw[<-mq]at u;obtain⟨n,p⟩:=m.at;refine⟨n+1,?_⟩;rw[dG];simp only[q];have d:=j5 (aI.le.refl (jE T.A T.X n)) (iQ n) _ _ _ (p n (Nat.le_refl _));unfold jH pz;rw[mG d,l];simp only;rw[aq t,d];rcases y with rfl|rfl<;>simp[z,k,u,A]
 .obtain⟨e,s',m,rfl,k,p,rfl⟩:=oq _ _ _ h;rw[<-mq]at k;obtain⟨n,d⟩:=m.at;refine⟨n+1,?_⟩;rw[dG];simp only[q];have d:=j5 (aI.le.refl (jE T.A T.X n)) (iQ n) _ _ _ (d n (Nat.le_refl _));unfold ss;rw[aq t,d];simp only;rw[aq (by simp[k,p])]
def cH{T:dk}{f:FuncId}{af:au}(k:T.A f=some af){args:List DV}{H:Heap}{d:Nat}{r:DV}{e:Heap}(l:args.length=af.nparams)
  (h:W T af.body {env:=aj 0 args,heap:=H,next:=d,marks:=[d]} (Fin af.results d (.inl (r,e,d))))(g:af.rs=true:=by rfl):BS T f args H d r e d:=
 fZ (o:=.inl (r,e,d)) k l h g
def TC{g:List gm}{f d:Nat}{r:DV}{h:Heap}{e:Ex}{s:St}:Fin g f (.inl (r,h,d)) e s=ic g (λv s=>v=r/\d=f/\below f dep v=true/\Left f h s) e s:=cN rfl rfl
def SY{g:List gm}{d:Nat}{v:PV}{f:Heap}{e:Ex}{s:St}:Fin g d (.inr (v,f)) e s=(e=.panic v/\Left d f s):=cN rfl rfl
def PS.calls{P:Program}{T:dk}(d:P.follows .mixedOrders=true)(g:∀f e,T.A f=some e->sy P f e)(k:bS P T.X){f:FuncId}{args:List PV}{r:PV}(h:PS T f args r):sn P f args r:=by
 obtain⟨n,l⟩:=h;exact(CQ d g k n).pure f args r l
def Jl(i:Nat):(i:Int)+1=((i+1:Nat):Int):=rfl
def B3(b:Bool):(b==true)=b:=by cases b<;>rfl
def Bq(b:Bool):(b==false)=!b:=by cases b<;>rfl
section
variable{T:dk}{s s':St}{K:Ex->St->Prop}{a b c:aC}{i j:Nat}
def rn(h:W T (.loop c) s K):LK T c K .normal s:=h
def bq{d:aC}(e:c=d)(h:W T d s K):W T c s K:=by rw[e];exact h
variable{o:ai}{r:List ai}{Q:St->Prop}
def Ct{f:FuncId}{l:List DV}{v:DV}{H:Heap}{n:Nat}(d:gd o.guard s.env=some true)(e:jt s o.op=some (true,some (f,l)))(g:BS T f l s.heap s.next v H n)
  (k:jy s o.dst (v,H,n)=s')(h:ct T r s' Q):ct T (o::r) s Q:=by
 subst k;simp only[ct,d,kX,tk,Bv,e,tU];exact⟨v,H,n,g,h⟩
end
@[congr] theorem WZ {T:dk} {l:List (ai×List Nat)} {s s':St} {K:St->Prop} (h:s=s'):mI T l s K=mI T l s' K:=by rw[h]
section
variable{T:dk}{s s':St}{K:Ex->St->Prop}{a b c:aC}
def M5{d:List (ai×List Nat)}:W T (.aS d) s K=iH T d s K:=rfl
def MJ:iH T [] s K=K .normal s:=rfl
def HQ{o:ai}{k:List Nat}{r:List (ai×List Nat)}(h:ct T [o] s λs'=>iH T r {s' with env:=cT s'.env k} K):iH T ((o,k)::r) s K:=.inl h
def Xd{o:ai}{k:List Nat}{r:List (ai×List Nat)}{f:FuncId}{l:List DV}{v:PV}{H:Heap}(d:oC s o=some (f,l))(e:DS T f l s.heap s.next v H)(h:K (.panic v) {s with env:=[],heap:=H}):iH T ((o,k)::r) s K:=.inr ⟨f,l,v,H,d,e,h⟩
def Vc{o:ai}{k:List Nat}{r:List (ai×List Nat)}{f:FuncId}{l:List DV}{q:(DV×Heap×Nat)⊕(PV×Heap)}(d:oC s o=some (f,l))(h:CS T f l s.heap s.next q)
  (m:∀x,q=.inl x->iH T r {jy s o.dst x with env:=cT (jy s o.dst x).env k} K)(n:∀v H,q=.inr (v,H)->K (.panic v) {s with env:=[],heap:=H}):iH T ((o,k)::r) s K:=by
 have e:gd o.guard s.env=some true/\jt s o.op=some (true,some (f,l)):=by
  unfold oC at d;split at d
  .rename_i w args e p;cases g:gn s args with
   |none=>rw[g]at d;cases d
   |some y=>
    rw[g]at d;simp only[aw,bQ]at d;obtain⟨rfl,rfl⟩:=d;exact⟨e,by simp only[p,jt,g]⟩
  .cases d
 obtain⟨x,t,u⟩|⟨v,t⟩:=q
 .exact HQ (Ct e.1 e.2 h rfl (m _ rfl))
 .exact Xd d h (n _ _ rfl)
def Ri{d:List ai}{x:DO}:W T (.panic d x) s K=ct T d s λs'=>∃t v,s'.ev x=some (.p (.iface t v))/\K (.panic (.iface t v)) {s' with env:=[]}:=rfl
def Lf{pre:List ai}{d:ai}{post:List ai}{f:List Nat}:W T (.j2 pre d post f) s K=BO T pre d post s λe s'=>K e {s' with env:=cT s'.env f}:=rfl
def Qg{m f d:Nat}{g:List Nat}{e:List ai}{x y z:aC}{b:ByteArray}(k:ah s.env m=some (.p (.str b)))(l:(f::d::g).all (λt=>(ah s.env t).isNone)=true)
  (h:nb T (W T x) e d (f::d::g) ((runesFrom b (b.size+1) 0).map lR) s (SK T y (SK T z K))):W T (.forIn true m (f::d::g) e x y z) s K:=by
 rw[BZ,BZ]at h;exact⟨b,k,l,h⟩
def uz{m g d:Nat}{k:List Nat}{f:List ai}{x y z:aC}{c:SM}{l0:List (ByteArray×MV)}(q:zJ s m (g::d::k)=some c)(n:eX c l0){e1:Ex}{s1:St}
  (h:∀l:List (ByteArray×MV),eX c l->nb T (W T x) f d (g::d::k) (l.map λe=>jR e.1 e.2) s (SK T y λe s'=>e=e1/\s'=s1))(p:SK T z K e1 s1):W T (.forIn false m (g::d::k) f x y z) s K:=by
 rw[BZ]at p;exact⟨c,l0,e1,s1,q,n,λl n=>by
  have:=h l n;rw[BZ]at this;exact this,p⟩
def qX{B:St->(Ex->St->Prop)->Prop}{d:List ai}{e:Nat}{hid:List Nat}:nb T B d e hid [] s K=K .normal s:=rfl
def FK(T:dk)(B:St->(Ex->St->Prop)->Prop)(d:List ai)(f:Nat)(hid:List Nat)(r:List DV)(g:List Nat)(K:Ex->St->Prop)(e:Ex)(s':St):Prop:=
 match e with
 | .normal=>nb T B d f hid r {s' with env:=cT s'.env hid,marks:=g} K
 | .ret=>K .ret {s' with marks:=g}
 | .panic v=>K (.panic v) {s' with marks:=g}
 | .exit _=>False
end
attribute [irreducible] Fin LI W ct mI iH nb FK SK BK LK ic mY
end
end Go.Dv
