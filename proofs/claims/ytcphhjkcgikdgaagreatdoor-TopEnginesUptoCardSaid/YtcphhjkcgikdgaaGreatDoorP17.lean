/- Lemmas for the law of this claim. -/
import Derived.Test.YtcphhjkcgikdgaaGreatDoorP16
import Derived.IntWalk
set_option linter.all false
namespace Go.Dv
section
def aK.OV(a:aK):Prop:=∀f args H d r,a.dies f args H d=some r->a.dq f args H d=none
structure aK.le(a b:aK):Prop where
 pure:∀f args r,a.pure f args=some r->b.pure f args=some r
 dq:∀f args H nx r,a.dq f args H nx=some r->b.dq f args H nx=some r
 dies:∀f args H nx r,a.dies f args H nx=some r->b.dies f args H nx=some r
 only:b.OV
def aK.le.refl{a:aK}(h:a.OV):a.le a:=⟨λ_ _ _ h=>h,λ_ _ _ _ _ h=>h,λ_ _ _ _ _ h=>h,h⟩
def aK.le.trans{a b c:aK}(h:a.le b)(k:b.le c):a.le c:=⟨λf x r e=>k.pure f x r (h.pure f x r e),λf x H n r e=>k.dq f x H n r (h.dq f x H n r e),λf x H n r e=>k.dies f x H n r (h.dies f x H n r e),k.only⟩
def LL{a:aK}(h:a.OV):l6.le a:=⟨λ_ _ _ h=>(by cases h),λ_ _ _ _ _ h=>(by cases h),λ_ _ _ _ _ h=>(by cases h),h⟩
def jn(A:FuncId->Option av)(X:aK):∀n,(dQ A X n).OV
 |0=>λf args H l r h=>by simp only[dQ]at h;cases h
 |n+1=>λf args H l r h=>by
  rw[dQ]at h⊢;simp only at h⊢;cases d:A f with
  |none=>rw[d]at h;cases h
  |some e=>
   rw[d]at h;simp only at h⊢;unfold sH at h;unfold jH;split at h
   case isFalse=>cases h
   rename_i m;cases g:ik e.body with
   |some run=>
    exfalso;cases k:e.body<;>rw[k]at g<;>simp only[ik,reduceCtorEq]at g
    rw[k]at h;simp only[aR]at h;cases h
   |none=>
    simp only;rw[aq m];split at h
    .rename_i p;rw[p]
    .cases h
def vt{a b:aK}(h:a.le b){d:Bool}{f:FuncId}{l:List DV}{H:Heap}{m:Nat}{r:DV×Heap×Nat}(e:jk a d f l H m=some r):jk b d f l H m=some r:=by
 unfold jk at e⊢;split at e
 .rename_i g;rw[aq g];exact h.dq _ _ _ _ _ e
 .rename_i g;rw[ak g];cases n:bP (aS H dep) l with
  |none=>rw[n]at e;cases e
  |some p=>
   rw[n]at e;simp only at e⊢;cases k:a.pure f p with
   |none=>rw[k]at e;cases e
   |some q=>rw[k]at e;rw[h.pure _ _ _ k];exact e
def GY{a b:aK}(h:a.le b){d:dX}{s:St}{r:DV×Heap×Nat}(e:bf a d s=some r):bf b d s=some r:=by
 cases d
 case call g f args=>
  simp only[bf]at e⊢;cases k:gH s args with
  |none=>rw[k]at e;cases e
  |some l=>rw[k]at e;exact vt h e
 case eM g n args=>
  simp only[bf]at e⊢;split at e
  .exact vt h e
  .exact vt h e
  .exact vt h e
  .cases e
 case jT f args=>
  simp only[bf]at e⊢;cases k:gH s args with
  |none=>rw[k]at e;cases e
  |some l=>
   rw[k]at e;simp only at e⊢;cases m:a.dq f l s.heap s.next with
   |none=>rw[m]at e;cases e
   |some q=>rw[m]at e;rw[h.dq _ _ _ _ _ m];exact e
 all_goals exact e
def pX{a b:aK}(h:a.le b){d:aj}{s s':St}(e:cX a d s=some s'):cX b d s=some s':=by
 unfold cX at e⊢;cases g:gd d.guard s.env with
 |none=>rw[g]at e;cases e
 |some t=>
  rw[g]at e;cases t with
  |false=>exact e
  |true=>
   simp only at e⊢;cases f:bf a d.op s with
   |none=>rw[f]at e;cases e
   |some r=>rw[f]at e;rw[GY h f];exact e
def ix{a b:aK}(h:a.le b):∀(l:List aj) (s s':St),bO a l s=some s'->bO b l s=some s'
 |[],_,_,e=>e
 |o::r,s,s',e=>by
  simp only[bO]at e⊢;cases d:cX a o s with
  |none=>rw[d]at e;cases e
  |some f=>rw[d]at e;rw[pX h d];exact ix h r f s' e
def Vt{a b:aK}(h:a.le b){g:List aj}{f:List (Nat×Nat)}{n:List Nat}{d:List (List Nat)}{s p:St}(e:vX a g f n d s=some p):vX b g f n d s=some p:=by
 unfold vX at e⊢;cases d with
 |nil=>cases e
 |cons l r=>
  simp only at e⊢;cases k:bO a (uV g l) s with
  |none=>rw[k]at e;cases e
  |some A=>
   rw[k]at e;rw[ix h _ _ _ k];simp only at e⊢;split at e
   .rename_i t;rw[aq t];split at e
    .rename_i u q;split at e
     .rename_i v;rw[aq]
      .exact e
      .intro w m;obtain⟨x,y,z⟩:=v w m;exact⟨x,ix h _ _ _ y,z⟩
     .cases e
    .cases e
   .cases e
def Aa{a b:aK}(h:a.le b):∀(l:List (aj×List Nat)) (s s':St),oX a l s=some s'->oX b l s=some s'
 |[],_,_,e=>e
 |(o,k)::r,s,s',e=>by
   simp only[oX]at e⊢;cases d:cX a o s with
   |none=>rw[d]at e;cases e
   |some f=>rw[d]at e;rw[pX h d];exact Aa h r _ s' e
def wY{a b:aK}(h:a.le b){o:aj}{s:St}{q:PV×Heap}(e:dieOf a o s=some q):dieOf b o s=some q/\cX b o s=none:=by
 unfold dieOf at e⊢;split at e
 .rename_i f args g k;cases d:gH s args with
  |none=>rw[d]at e;cases e
  |some l=>
   rw[d]at e;simp only at e;have m:=h.dies _ _ _ _ _ e;refine⟨by simp only[g,k,d,m],?_⟩;unfold cX;rw[g];simp only[k,bf,d,jk,cQ,h.only _ _ _ _ _ m]
 .cases e
def AW{a b:aK}(h:a.le b):∀(l:List (aj×List Nat)) (s:St) (r:Ex×St),oT a l s=some r->oT b l s=some r
 |[],_,_,e=>e
 |(o,k)::r,s,q,e=>by
   simp only[oT]at e⊢;cases d:cX a o s with
   |none=>
    rw[d]at e;simp only at e;cases f:dieOf a o s with
    |none=>rw[f]at e;cases e
    |some p=>
     rw[f]at e;obtain⟨g,m⟩:=wY h f;rw[m,g];exact e
   |some n=>rw[d]at e;rw[pX h d];exact AW h r _ q e
def LQ{a b:aK}(h:a.le b){pre:List aj}{d:aj}{post:List aj}{s:St}{r:Ex×St}(e:l9 a pre d post s=some r):l9 b pre d post s=some r:=by
 unfold l9 at e⊢;cases f:bO a pre s with
 |none=>rw[f]at e;cases e
 |some q=>
  rw[f]at e;rw[ix h _ _ _ f];simp only at e⊢;cases g:cX a d q with
  |none=>
   rw[g]at e;simp only at e;cases k:dieOf a d q with
   |none=>rw[k]at e;cases e
   |some p=>
    rw[k]at e;obtain⟨t,u⟩:=wY h k;rw[u,t];exact e
  |some l=>
   rw[g]at e;rw[pX h g];simp only at e⊢;cases m:bO a pre {s with heap:=l.heap,next:=l.next}with
   |none=>rw[m]at e;cases e
   |some w=>
    rw[m]at e;rw[ix h _ _ _ m];simp only at e⊢;split at e
    .rename_i v;rw[aq v];cases n:bO a post l with
     |none=>rw[n]at e;cases e
     |some x=>rw[n]at e;rw[ix h _ _ _ n];exact e
    .cases e
def qY{f g:St->R}(h:∀s r,f s=some r->g s=some r)(k:Nat)(hid:List Nat):∀(l:List DV) (s:St) (r:Ex×St),eD f k hid l s=some r->eD g k hid l s=some r
 |[],_,_,e=>e
 |d::l,s,r,e=>by
  simp only[eD]at e⊢;cases m:f {s with env:=fI s.env k d,marks:=[]}with
  |none=>rw[m]at e;cases e
  |some q=>
   rw[m]at e;rw[h _ _ m];obtain⟨x,n⟩:=q;cases x with
   |normal=>exact qY h k hid l _ r e
   |exit id=>cases e
   |ret|panic v=>exact e
def JW{a b:aK}(h:a.le b){d:List aj}{f g:St->R}(l:∀s r,f s=some r->g s=some r)(s:St)(r:Ex×St)(e:fe a d f s=some r):fe b d g s=some r:=by
 unfold fe at e⊢;cases k:bO a d s with
 |none=>rw[k]at e;cases e
 |some m=>rw[k]at e;rw[ix h _ _ _ k];exact l _ _ e
def Kx{f n g p:St->R}(h:∀s r,f s=some r->n s=some r)(k:∀s r,g s=some r->p s=some r)(d:Nat)(hid:List Nat)(l:List (ByteArray×MV))(s:St)(r:Ex×St)(e:ld f g d hid l s=some r):ld n p d hid l s=some r:=by
 unfold ld at e⊢;cases m:eD f d hid (l.map λe=>sT e.1 e.2) s with
 |none=>rw[m]at e;cases e
 |some q=>
  rw[m]at e;rw[qY h _ _ _ _ _ m];obtain⟨x,t⟩:=q;cases x with
  |normal=>exact k _ _ e
  |exit id|ret|panic v=>exact e
def j0{a b:aK}(h:a.le b){n m:Nat}(Y:n<=m):∀(c:aG) (s:St) (r:Ex×St),aR a n c s=some r->aR b m c s=some r:=by
 intro c;induction c with
 |skip|ret|exit id=>intro s r e;exact e
 |bE d f=>
  intro s r e;simp only[aR]at e⊢;cases p:oX a f s with
  |none=>rw[p]at e;cases e
  |some A=>rw[p]at e;rw[Aa h _ _ _ p];exact e
 |native k fs z=>intro s r e;simp only[aR]at e;cases e
 |aX f=>intro s r e;exact AW h _ _ _ e
 |km pre F post kill=>
  intro s r e;simp only[aR]at e⊢;cases p:l9 a pre F post s with
  |none=>rw[p]at e;cases e
  |some q=>rw[p]at e;rw[LQ h p];exact e
 |panic f x|region d f kill|jY B f kill=>
  intro s r e;simp only[aR]at e⊢;cases p:bO a f s with
  |none=>rw[p]at e;cases e
  |some A=>rw[p]at e;rw[ix h _ _ _ p];exact e
 |forIn str v hid f x y z u t G=>
  intro s r e;have N:∀s r,fe a f (aR a n x) s=some r->fe b f (aR b m x) s=some r:=JW h u;cases str<;>rcases hid with _|⟨Z,_|⟨H,hs⟩⟩<;>simp only[aR]at e⊢<;>try cases e
  .cases O:nk (fe a f (aR a n x)) (aR a n y) s v H (Z::H::hs)with
   |none=>rw[O]at e;cases e
   |some q=>
    rw[O]at e;obtain⟨c,hc,P,I⟩:=vK O;rw[Bf hc P λl P=>Kx N t _ _ _ _ _ (I l P)];obtain⟨J,A⟩:=q;cases J with
    |normal=>exact G _ _ e
    |exit id|ret|panic v=>exact e
  .split at e
   .split at e
    .rename_i C;rw[aq C];split at e
     .rename_i A R;rw[qY N _ _ _ _ _ R];simp only;split at e
      .rename_i W hy;rw[t _ _ hy];exact G _ _ e
      .rename_i D;rw[t _ _ e];obtain⟨J,W⟩:=r;cases J with
       |normal=>exact absurd e (D _)
       |exit id|ret|panic v=>rfl
     .rename_i D;rw[qY N _ _ _ _ _ e];obtain⟨J,W⟩:=r;cases J with
      |normal=>exact absurd e (D _)
      |exit id|ret|panic v=>rfl
    .cases e
   .cases e
 |ghost g c L=>
  intro s r e;simp only[aR]at e⊢;cases X:gz g s with
  |none=>rw[X]at e;cases e
  |some A=>rw[X]at e;exact L A r e
 |nu B rk M f ks kill=>
  intro s r e;simp only[aR]at e⊢;cases p:vX a f B ks M s with
  |none=>rw[p]at e;cases e
  |some A=>rw[p]at e;rw[Vt h p];exact e
 |seq x y u t=>
  intro s r e;simp only[aR]at e⊢;cases w:aR a n x s with
  |none=>rw[w]at e;cases e
  |some q=>
   rw[w]at e;rw[u s q w];obtain⟨S,A⟩:=q;cases S with
   |normal=>exact t A r e
   |exit id|ret|panic v=>exact e
 |cond o x y u t=>
  intro s r e;simp only[aR]at e⊢;split at e
  .exact u s r e
  .exact t s r e
  .cases e
 |block id x L=>
  intro s r e;simp only[aR]at e⊢;cases w:aR a n x s with
  |none=>rw[w]at e;cases e
  |some q=>
   rw[w]at e;rw[L s q w];exact e
 |loop x L=>
  intro s r e;simp only[aR]at e⊢;have U:∀(k E:Nat) (s:St),k<=E->lh (aR a n x) k s=some r->lh (aR b m x) E s=some r:=by
   intro k;induction k with
   |zero=>intro E s _ e;simp[lh]at e
   |succ k V=>
    intro E s hk e;cases E with
    |zero=>omega
    |succ E=>
     simp only[lh]at e⊢;cases w:aR a n x s with
     |none=>rw[w]at e;cases e
     |some q=>
      rw[w]at e;rw[L s q w];obtain⟨S,A⟩:=q;cases S with
      |normal=>exact V E A ae e
      |exit id|ret|panic v=>exact e
  exact U n m s Y e
def Nu{a b:aK}(h:a.le b)(k:Nat)(L:List Nat)(z:List PV){args:List DV}{H:Heap}{B:Nat}{r:DV×Heap×Nat}(e:lH k L z a args H B=some r):lH k L z b args H B=some r:=by
 have u:∀(d:FuncId) (n:Int) (t:Bool),jf a d n=some t->jf b d n=some t:=by
  intro d n t e;unfold jf at e⊢;cases g:a.pure d [.int .i64 n]with
  |none=>rw[g]at e;cases e
  |some p=>rw[g]at e;rw[h.pure _ _ _ g];exact e
 have w:∀(d:FuncId) (l:List Int) (i:Nat) (r:Int×Nat×Bool),jz (jf a d) i l=some r->jz (jf b d) i l=some r:=by
  intro d l;induction l with
  |nil=>intro i r e;exact e
  |cons n l O=>
   intro i r e;simp only[jz]at e⊢;cases g:jf a d n with
   |none=>rw[g]at e;cases e
   |some t=>
    rw[g]at e;rw[u _ _ _ g];cases t with
    |true=>exact e
    |false=>exact O _ _ e
 have m:∀(d:FuncId) (f:Bool) (D:List (List PV)) (r:Int×Nat×Bool),wG (jf a d) f D=some r->wG (jf b d) f D=some r:=by
  intro d f D r e;unfold wG at e⊢;split at e
  .rename_i E;have C:(aW D).all (λo=>(jf b d o).isSome)=true:=by
    refine List.all_eq_true.2 λo P=>?_
    have y:=List.all_eq_true.1 E.2.2 o P;cases g:jf a d o with
    |none=>rw[g]at y;cases y
    |some t=>rw[u _ _ _ g];rfl
   rw[aq ⟨E.1,E.2.1,C⟩];exact w _ _ _ _ e
  .cases e
 unfold lH at e⊢;split at e
 .rename_i t;unfold sn at e⊢;split at e
  .rename_i x f v;cases C:a.dq f v (rE z H B) (B+2)with
   |some q=>rw[C]at e;rw[h.dq _ _ _ _ _ C];exact e
   |none=>
    rw[C]at e;simp only at e;cases F:a.dies f v (rE z H B) (B+2)with
    |none=>rw[F]at e;cases e
    |some q=>
     rw[F]at e;have:=h.dies _ _ _ _ _ F;rw[h.only _ _ _ _ _ this,this];exact e
  .cases e
 .rename_i R S d;unfold rO at e⊢;split at e
  .rename_i U V W;cases M:bP (aS H dep) [U,V,W]with
   |none=>rw[M]at e;cases e
   |some N=>
    rw[M]at e;simp only at e⊢;cases G:a.pure R [.agg N]with
    |none=>rw[G]at e;cases e
    |some p=>
     rw[G]at e;rw[h.pure _ _ _ G];split at e
     .rename_i I A;cases A;by_cases y:I=0
      .rw[aq y]at e
       show(if I=0 then _ else _)=_
       rw[aq y];cases J:a.pure S [.agg N]with
       |none=>rw[J]at e;cases e
       |some q=>
        rw[J]at e;rw[h.pure _ _ _ J];split at e
        .rename_i A;cases A;split at e
         .rename_i X;rw[m _ _ _ _ X];exact e
         .cases e
        .cases e
      .rw[ak y]at e
       show(if I=0 then _ else _)=_
       rw[ak y];exact e
     .cases e
  .cases e
 .cases e
def JX{a b:aK}(h:a.le b){n m:Nat}(l:n<=m){f:av}{args:List DV}{H:Heap}{g:Nat}{r:DV×Heap×Nat}(e:jH a n f args H g=some r):jH b m f args H g=some r:=by
 unfold jH at e⊢;cases d:ik f.body with
 |some run=>
  rw[d]at e;cases p:f.body<;>rw[p]at d<;>simp only[ik,reduceCtorEq,ay]at d
  subst d;exact Nu h _ _ _ e
 |none=>
  rw[d]at e;simp only at e⊢;split at e
  .rename_i t;rw[aq t];cases k:aR a n f.body {env:=ai 0 args,heap:=H,next:=g,marks:=[g]}with
   |none=>rw[k]at e;cases e
   |some q=>rw[k]at e;rw[j0 h l _ _ _ k];exact e
  .cases e
def QS{a b:aK}(h:a.le b){n m:Nat}(k:n<=m){f:av}{args:List DV}{H:Heap}{d:Nat}{r:PV×Heap}(e:sH a n f args H d=some r):sH b m f args H d=some r:=by
 unfold sH at e⊢;split at e
 .rename_i l;rw[aq l];cases g:aR a n f.body {env:=ai 0 args,heap:=H,next:=d,marks:=[d]}with
  |none=>rw[g]at e;cases e
  |some q=>rw[g]at e;rw[j0 h k _ _ _ g];exact e
 .cases e
def Tq{a b:aK}(h:a.le b){n m:Nat}(g:n<=m){d:av}{args:List PV}{r:PV}(e:prun a n d args=some r):prun b m d args=some r:=by
 unfold prun at e⊢;cases f:jH a n d (args.map aI) [] 0 with
 |none=>rw[f]at e;cases e
 |some q=>rw[f]at e;rw[JX h g f];exact e
def Gk(A:FuncId->Option av)(X:aK):∀n,(dQ A X n).le (dQ A X (n+1))
 |0=>by
  refine⟨?_,?_,?_,jn A X 1⟩
  .intro f args r h;simp only[dQ]at h⊢;cases d:A f with
   |none=>rw[d]at h;exact h
   |some e=>rw[d]at h;cases h
  .intro f args H g r h;simp only[dQ]at h⊢;cases d:A f with
   |none=>rw[d]at h;exact h
   |some e=>rw[d]at h;cases h
  .intro f args H g r h;simp only[dQ]at h;cases h
 |n+1=>by
  have k:=Gk A X n;refine⟨?_,?_,?_,jn A X (n+2)⟩
  .intro f args r h;rw[dQ]at h⊢;simp only at h⊢;cases d:A f with
   |none=>rw[d]at h;exact h
   |some e=>rw[d]at h;exact Tq k (iU _) h
  .intro f args H g r h;rw[dQ]at h⊢;simp only at h⊢;cases d:A f with
   |none=>rw[d]at h;exact h
   |some e=>rw[d]at h;exact JX k (iU _) h
  .intro f args H g r h;rw[dQ]at h⊢;simp only at h⊢;cases d:A f with
   |none=>rw[d]at h;cases h
   |some e=>rw[d]at h;exact QS k (iU _) h
def gk(A:FuncId->Option av)(X:aK){n m:Nat}(h:n<=m):(dQ A X n).le (dQ A X m):=by
 induction h with
 |refl=>exact aK.le.refl (jn A X n)
 |step _ d=>exact d.trans (Gk A X _)
structure dw where
 A:FuncId->Option av
 X:aK
def PS(T:dw)(f:FuncId)(args:List PV)(r:PV):Prop:=∃n,(dQ T.A T.X n).pure f args=some r
def BS(T:dw)(f:FuncId)(args:List DV)(H:Heap)(e:Nat)(r:DV)(g:Heap)(d:Nat):Prop:=∃n,(dQ T.A T.X n).dq f args H e=some (r,g,d)
def DS(T:dw)(f:FuncId)(args:List DV)(H:Heap)(d:Nat)(v:PV)(e:Heap):Prop:=∃n,(dQ T.A T.X n).dies f args H d=some (v,e)
def PQ(T:dw)(c:aG)(s:St)(e:Ex)(s':St):Prop:=∃n,aR (dQ T.A T.X n) n c s=some (e,s')
def PQ.at{T:dw}{c:aG}{s:St}{e:Ex}{s':St}(h:PQ T c s e s'):∃n,∀m,n<=m->aR (dQ T.A T.X m) m c s=some (e,s'):=by
 obtain⟨n,h⟩:=h;exact⟨n,λm d=>j0 (gk _ _ d) d _ _ _ h⟩
def Br(b:Bool)(x y:Prop):Prop:=(b=true->x)/\(b=false->y)
@[congr] theorem Z8 {b d:Bool} {x y:Prop} (h:b=d):Br b x y=Br d x y:=by rw[h]
theorem uO{x y:Prop}:Br true x y=x:=by simp[Br]
def vu{x y:Prop}:Br false x y=y:=by simp[Br]
def oh{d:Type}(o:Option d)(K:d->Prop):Prop:=
 match o with
 |some r=>K r
 |none=>False
@[congr] theorem Yb {d:Type} {o e:Option d} {K:d->Prop} (h:o=e):oh o K=oh e K:=by rw[h]
theorem kC{d:Type}{a:d}{K:d->Prop}:oh (some a) K=K a:=rfl
def N1{d:Type}{o:Option d}{K:d->Prop}{a:d}(h:o=some a)(k:K a):oh o K:=by rw[h];exact k
def n5{d:Type}{o:Option d}{K:d->Prop}(h:oh o K):∃a,o=some a/\K a:=by
 cases o with
 |none=>exact h.elim
 |some a=>exact⟨a,rfl,h⟩
def jt(s:St):dX->Option (Bool×Option (FuncId×List DV))
 | .call d f args=>some (d,match gH s args with|some l=>some (f,l)|none=>none)
 | .eM d g args=>some (d,match s.ev g,gH s args with
  |some (.func f e),some l=>some (f,l++e)
  |some (.p (.func f e)),some l=>some (f,l++e.map aI)
  |some (.kK f first),some l=>some (f,first++l)
  |_,_=>none)
 |_=>none
def jF(s:St)(d:Option Nat)(r:DV×Heap×Nat):St:={s with env:=dF s.env d r.1,heap:=r.2.1,next:=r.2.2}
def St.xM(s:St)(c:DO):Option Bool:=
 match s.ev c with
 |some (.p (.bool b))=>some b
 |_=>none
def uL(T:dw)(c:Bool×Option (FuncId×List DV))(H:Heap)(e:Nat)(K:DV×Heap×Nat->Prop):Prop:=
 match c with
 |(_,none)=>False
 |(true,some (f,l))=>∃r g d,BS T f l H e r g d/\K (r,g,d)
 |(false,some (f,l))=>oh (bP (aS H dep) l) λh=>∃r,PS T f h r/\K (aI r,if r.plain then H else dp H (l.flatMap (fg H dep)),e)
def zW:dX->Option (FuncId×List DO)
 | .jT f args=>some (f,args)
 |_=>none
def Xu(T:dw)(f:FuncId)(args:List DO)(s:St)(K:DV×Heap×Nat->Prop):Prop:=
 oh (gH s args) λl=>∃v H n,BS T f l s.heap s.next v H n/\HK s.heap s.next v H/\K (v,H,n)
def Au(T:dw)(d:dX)(s:St)(K:DV×Heap×Nat->Prop):Prop:=
 match jt s d with
 |some c=>uL T c s.heap s.next K
 |none=>match zW d with
  |some q=>Xu T q.1 q.2 s K
  |none=>oh (bf l6 d s) K
def cv(T:dw):List aj->St->(St->Prop)->Prop
 |[],s,K=>K s
 |o::r,s,K=>oh (gd o.guard s.env) λb=>Br b (Au T o.op s λx=>cv T r (jF s o.dst x) K) (cv T r {s with env:=dF s.env o.dst (.tuple [])} K)
def Yg(d:List (Nat×Nat))(e:List aj)(g:List Nat)(n:Nat)(h f:St):Prop:=ju d e f.env=true/\canon n g f=some h
def D2(T:dw)(e:List aj)(d:List (Nat×Nat))(f:List Nat)(s g:St):List (List Nat)->Prop
 |[]=>True
 |l::r=>cv T (uV e l) s (Yg d e f s.next g)/\D2 T e d f s g r
def ME(T:dw)(e:List aj)(d:List (Nat×Nat))(f:List Nat)(s:St)(K:St->Prop):List (List Nat)->Prop
 |[]=>False
 |l::r=>cv T (uV e l) s λg=>ju d e g.env=true/\oh (canon s.next f g) λh=>D2 T e d f s h r/\K h
def mX(T:dw):List (aj×List Nat)->St->(St->Prop)->Prop
 |[],s,K=>K s
 |(o,k)::r,s,K=>cv T [o] s λs'=>mX T r {s' with env:=da s'.env k} K
def oU(s:St)(o:aj):Option (FuncId×List DV):=
 match gd o.guard s.env,o.op with
 |some true,.call true f args=>match gH s args with
  |some l=>some (f,l)
  |none=>none
 |_,_=>none
def OT(T:dw)(o:aj)(s:St)(K:PV->Heap->Prop):Prop:=∃f l v H,oU s o=some (f,l)/\DS T f l s.heap s.next v H/\K v H
def iT(T:dw):List (aj×List Nat)->St->(Ex->St->Prop)->Prop
 |[],s,K=>K .normal s
 |(o,k)::r,s,K=>(cv T [o] s λs'=>iT T r {s' with env:=da s'.env k} K)\/OT T o s λv H=>K (.panic v) {s with env:=[],heap:=H}
def B8(T:dw)(pre:List aj)(d:aj)(post:List aj)(s:St)(K:Ex->St->Prop):Prop:=
 cv T pre s λe=>(cv T [d] e λf=>cv T pre {s with heap:=f.heap,next:=f.next} λg=>g.env=e.env/\cv T post f λh=>K .normal h)\/
  OT T d e λv H=>K (.panic v) {s with env:=[],heap:=H}
def qZ(T:dw)(B:St->(Ex->St->Prop)->Prop)(f:List aj)(g:Nat)(hid:List Nat):List DV->St->(Ex->St->Prop)->Prop
 |[],s,K=>K .normal s
 |d::r,s,K=>cv T f {s with env:=fI s.env g d,marks:=[]} λh=>B h λe s'=>match e with
  | .normal=>qZ T B f g hid r {s' with env:=da s'.env hid,marks:=s.marks} K
  | .ret=>K .ret {s' with marks:=s.marks}
  | .panic v=>K (.panic v) {s' with marks:=s.marks}
  | .exit _=>False
def Ei(X:St->(Ex->St->Prop)->Prop)(K:Ex->St->Prop)(e:Ex)(s:St):Prop:=
 match e with
 | .normal=>X s K
 |e=>K e s
def W(T:dw):aG->St->(Ex->St->Prop)->Prop
 | .skip,s,K=>K .normal s
 | .region _ d f,s,K=>cv T d s λs'=>K .normal {s' with env:=da s'.env f}
 | .seq a b,s,K=>W T a s λe s'=>match e with
  | .normal=>W T b s' K
  |e=>K e s'
 | .cond c x y,s,K=>oh (s.xM c) λb=>Br b (W T x s K) (W T y s K)
 | .block id c,s,K=>W T c s λe s'=>match e with
  | .exit n=>if n=id then K .normal s' else K (.exit n) s'
  |e=>K e s'
 | .loop c,s,K=>∃e s',PQ T (.loop c) s e s'/\K e s'
 | .exit id,s,K=>K (.exit id) s
 | .ret,s,K=>K .ret s
 | .ghost g c,s,K=>oh (gz g s) λs'=>W T c s' K
 | .bE _ d,s,K=>mX T d s λs'=>K .normal s'
 | .jY h d f,s,K=>cv T d s λs'=>ju h d s'.env=true/\K .normal {s' with env:=da s'.env f}
 | .nu h _ p d A f,s,K=>ME T d h A s (λu=>K .normal {u with env:=da u.env f}) p
 | .aX d,s,K=>iT T d s K
 | .km pre q post f,s,K=>B8 T pre q post s λe s'=>K e {s' with env:=da s'.env f}
 | .panic d x,s,K=>cv T d s λs'=>∃t v,s'.ev x=some (.p (.iface t v))/\K (.panic (.iface t v)) {s' with env:=[]}
 | .forIn str m hid d x y z,s,K=>match str,hid with
  |true,B::k::C=>∃b,ag s.env m=some (.p (.str b))/\hid.all (λt=>(ag s.env t).isNone)=true/\
   qZ T (W T x) d k hid ((runesFrom b (b.size+1) 0).map mg) s (Ei (W T y) (Ei (W T z) K))
  |false,B::k::C=>∃c D r w,DP s m hid=some c/\iD c D/\
   (∀l:List (ByteArray×MV),iD c l->qZ T (W T x) d k hid (l.map λe=>sT e.1 e.2) s (Ei (W T y) λe s'=>e=r/\s'=w))/\Ei (W T z) K r w
  |_,_=>False
 | .native _ _ _,_,_=>False
def Ih{T:dw}{d:Bool}{q:Option (FuncId×List DV)}{H:Heap}{m:Nat}{K:DV×Heap×Nat->Prop}(h:uL T (d,q) H m K):
  ∃f l,q=some (f,l)/\∃r n,jk (dQ T.A T.X n) d f l H m=some r/\K r:=by
 unfold uL at h;split at h
 .exact h.elim
 .rename_i e;cases e;obtain⟨r,u,p,⟨n,g⟩,k⟩:=h;exact⟨_,_,rfl,_,n,by simp[jk,g],k⟩
 .rename_i e;cases e;obtain⟨v,t,r,⟨n,g⟩,k⟩:=n5 h;exact⟨_,_,rfl,_,n,by simp[jk,t,g],k⟩
def Nq{T:dw}{d:dX}{s:St}{K:DV×Heap×Nat->Prop}(h:Au T d s K):∃r n,bf (dQ T.A T.X n) d s=some r/\K r:=by
 unfold Au at h;cases g:jt s d with
 |none=>
  rw[g]at h;simp only at h;cases u:zW d with
  |none=>
   rw[u]at h;simp only at h;obtain⟨r,y,h⟩:=n5 h;exact⟨r,0,GY (LL (jn _ _ _)) y,h⟩
  |some q=>
   rw[u]at h;simp only at h;cases d<;>simp only[zW,ay,reduceCtorEq]at u
   subst u;obtain⟨l,m,v,H,n,⟨k,w⟩,p,z⟩:=n5 h;refine⟨(v,H,n),k,?_,z⟩;simp only[bf,m,w];rw[aq p]
 |some c=>
  rw[g]at h;obtain⟨x,q⟩:=c;obtain⟨f,l,rfl,r,n,e,w⟩:=Ih h;refine⟨r,n,?_,w⟩;cases d<;>simp only[jt,ay,bY,reduceCtorEq]at g
  .obtain⟨rfl,g⟩:=g;simp only[bf];split at g
   .rename_i A;rw[A];cases g;exact e
   .cases g
  .obtain⟨rfl,g⟩:=g;simp only[bf];split at g
   .rename_i t m;cases g;rw[t,m];exact e
   .rename_i t m;cases g;rw[t,m];exact e
   .rename_i t m;cases g;rw[t,m];exact e
   .cases g
def fq{T:dw}:∀(l:List aj) (s:St) (K:St->Prop),cv T l s K->∃s' n,bO (dQ T.A T.X n) l s=some s'/\K s'
 |[],s,K,h=>⟨s,0,rfl,h⟩
 |o::r,s,K,h=>by
  simp only[cv]at h;obtain⟨b,k,h⟩:=n5 h
  .cases b with
   |true=>
    rw[uO]at h;obtain⟨x,n,m,p⟩:=Nq h;obtain⟨s',d,f,e⟩:=fq r _ K p;refine⟨s',max n d,?_,e⟩;have g:cX (dQ T.A T.X (max n d)) o s=some (jF s o.dst x):=by
     unfold cX;rw[k];simp only;rw[GY (gk _ _ (mz n d)) m];rfl
    simp only[bO,g];exact ix (gk _ _ (mA n d)) _ _ _ f
   |false=>
    rw[vu]at h;obtain⟨s',d,f,e⟩:=fq r _ K h;refine⟨s',d,?_,e⟩;have g:cX (dQ T.A T.X d) o s=some {s with env:=dF s.env o.dst (.tuple [])}:=by
     unfold cX;rw[k]
    simp only[bO,g];exact f
def Bi{T:dw}{f:List aj}{d:List (Nat×Nat)}{q:List Nat}{s t:St}:∀(r:List (List Nat)),D2 T f d q s t r->∃n,∀m,n<=m->∀k∈r,∃g,bO (dQ T.A T.X m) (uV f k) s=some g/\ju d f g.env=true/\canon s.next q g=some t
 |[],_=>⟨0,λ_ _ _ h=>by simp at h⟩
 |l::r,h=>by
  simp only[D2]at h;obtain⟨u,v⟩:=h;obtain⟨g,w,k1,k2,k3⟩:=fq _ _ _ u;obtain⟨x,y⟩:=Bi r v;refine⟨max w x,λm z k p=>?_⟩;rcases List.mem_cons.1 p with e|e
  .subst e;exact⟨g,ix (gk T.A T.X ae) _ _ _ k1,k2,k3⟩
  .exact y m ae k e
def G4{T:dw}{f:List aj}{d:List (Nat×Nat)}{q:List Nat}{s:St}{K:St->Prop}:∀{e:List (List Nat)},ME T f d q s K e->∃g n,vX (dQ T.A T.X n) f d q e s=some g/\K g
 |[],h=>h.elim
 |l::r,h=>by
  simp only[ME]at h;obtain⟨x,k,k1,k2,k3⟩:=fq _ _ _ h;obtain⟨g,t,k4,u⟩:=n5 k3;obtain⟨m,v⟩:=Bi r k4;refine⟨g,max k m,?_,u⟩;unfold vX;simp only[ix (gk T.A T.X (mz k m)) _ _ _ k1,k2,cQ,t];rw[aq λw p=>v _ (mA k m) w p]
def yR{T:dw}:∀(l:List (aj×List Nat)) (s:St) (K:St->Prop),mX T l s K->∃s' n,oX (dQ T.A T.X n) l s=some s'/\K s'
 |[],s,K,h=>⟨s,0,rfl,h⟩
 |(o,k)::r,s,K,h=>by
   simp only[mX]at h;obtain⟨t,n,d,f⟩:=fq [o] s _ h;obtain⟨g,m,p,q⟩:=yR r _ K f;simp only[bO]at d;cases e:cX (dQ T.A T.X n) o s with
   |none=>rw[e]at d;cases d
   |some u=>
    rw[e]at d;simp only[ay]at d;subst d;exact⟨g,max n m,by simp only[oX];rw[pX (gk _ _ (mz n m)) e];exact Aa (gk _ _ (mA n m)) _ _ _ p,q⟩
def Vx{d:aK}{o:aj}{s e:St}(h:bO d [o] s=some e):cX d o s=some e:=by
 simp only[bO]at h;cases f:cX d o s with
 |none=>rw[f]at h;cases h
 |some g=>rw[f]at h;exact h
def Be{T:dw}{o:aj}{s:St}{K:PV->Heap->Prop}(h:OT T o s K):∃v H n,(∀m,n<=m->dieOf (dQ T.A T.X m) o s=some (v,H)/\cX (dQ T.A T.X m) o s=none)/\K v H:=by
 obtain⟨f,l,v,H,d,⟨n,g⟩,k⟩:=h;refine⟨v,H,n,λm p=>?_,k⟩;have q:dieOf (dQ T.A T.X n) o s=some (v,H):=by
  unfold oU at d;unfold dieOf;split at d
  .rename_i w args t u;cases e:gH s args with
   |none=>rw[e]at d;cases d
   |some x=>
    rw[e]at d;simp only[ay,bY]at d;obtain⟨rfl,rfl⟩:=d;simp only[t,u,e,g]
  .cases d
 exact wY (gk _ _ p) q
def xN{T:dw}:∀(l:List (aj×List Nat)) (s:St) (K:Ex->St->Prop),iT T l s K->∃e s' n,oT (dQ T.A T.X n) l s=some (e,s')/\K e s'
 |[],s,K,h=>⟨.normal,s,0,rfl,h⟩
 |(o,k)::r,s,K,h=>by
   simp only[iT]at h;rcases h with h|h
   .obtain⟨t,n,d,f⟩:=fq [o] s _ h;obtain⟨e,q,m,g,p⟩:=xN r _ K f;exact⟨e,q,max n m,by simp only[oT];rw[pX (gk _ _ (mz n m)) (Vx d)];exact AW (gk _ _ (mA n m)) _ _ _ g,p⟩
   .obtain⟨v,H,n,d,f⟩:=Be h;obtain⟨g,p⟩:=d n (Nat.le_refl _);exact⟨.panic v,_,n,by simp only[oT];rw[p,g],f⟩
def Fb{T:dw}{pre:List aj}{d:aj}{post:List aj}{s:St}{K:Ex->St->Prop}(h:B8 T pre d post s K):∃e s' n,l9 (dQ T.A T.X n) pre d post s=some (e,s')/\K e s':=by
 obtain⟨w,f,u,h⟩:=fq pre s _ h;rcases h with h|h
 .obtain⟨x,g,m,h⟩:=fq [d] w _ h;obtain⟨D,k,y,z,h⟩:=fq pre _ _ h;obtain⟨A,l,B,p⟩:=fq post x _ h;refine⟨.normal,A,max (max f g) (max k l),?_,p⟩;have q:=ix (gk T.A T.X (show f<=max (max f g) (max k l) by omega)) _ _ _ u;have t:=pX (gk T.A T.X (show g<=max (max f g) (max k l) by omega)) (Vx m);have a3:=ix (gk T.A T.X (show k<=max (max f g) (max k l) by omega)) _ _ _ y;have C:=ix (gk T.A T.X (show l<=max (max f g) (max k l) by omega)) _ _ _ B;simp only[l9,q,t,a3,C,aq z]
 .obtain⟨v,H,g,m,p⟩:=Be h;refine⟨.panic v,_,max f g,?_,p⟩;have q:=ix (gk T.A T.X (show f<=max f g by omega)) _ _ _ u;obtain⟨t,a3⟩:=m (max f g) ae;simp only[l9,q,t,a3]
def tM{T:dw}{x:aG}{f:List aj}{g:Nat}{hid:List Nat}(y:∀(s:St) (K:Ex->St->Prop),W T x s K->∃e s',PQ T x s e s'/\K e s'):∀(l:List DV) (s:St) (K:Ex->St->Prop),qZ T (W T x) f g hid l s K->∃e s' n,(∀m,n<=m->eD (fe (dQ T.A T.X m) f (aR (dQ T.A T.X m) m x)) g hid l s=some (e,s'))/\K e s'
 |[],s,K,h=>⟨.normal,s,0,λ_ _=>rfl,h⟩
 |d::r,s,K,h=>by
  simp only[qZ]at h;obtain⟨D,q,z,h⟩:=fq f _ _ h;obtain⟨e,s',t,k⟩:=y _ _ h;obtain⟨u,t⟩:=t.at;have p:∀m,max q u<=m->fe (dQ T.A T.X m) f (aR (dQ T.A T.X m) m x) {s with env:=fI s.env g d,marks:=[]}=some (e,s'):=by
   intro m w;unfold fe;rw[ix (gk T.A T.X (show q<=m by omega)) _ _ _ z];exact t m ae
  cases e with
  |exit id=>exact k.elim
  |ret|panic v=>exact⟨_,_,max q u,λm w=>by simp only[eD,p m w],k⟩
  |normal=>
   obtain⟨e,A,B,C,k⟩:=tM y r _ K k;exact⟨e,A,max (max q u) B,λm w=>by simp only[eD,p m ae];exact C m ae,k⟩
def Fg{q:Type}(A:List q):∀(k:Nat) (P:List q->Nat->Prop),(∀l n m,n<=m->P l n->P l m)->(∀l,l.length=k->(∀x∈l,x∈A)->∃n,P l n)->∃n,∀l,l.length=k->(∀x∈l,x∈A)->P l n
 |0,P,_,h=>by
  obtain⟨n,t⟩:=h [] rfl (λ_ d=>by cases d);exact⟨n,λl f _=>by rw[List.eq_nil_of_length_eq_zero f];exact t⟩
 |k+1,P,e,h=>by
  have C:∀B:List q,(∀x∈B,x∈A)->∃n,∀x∈B,∀l,l.length=k->(∀y∈l,y∈A)->P (x::l) n:=by
   intro B;induction B with
   |nil=>exact λ_=>⟨0,λ_ d=>by cases d⟩
   |cons b B D=>
    intro z;obtain⟨u,E⟩:=D λx d=>z x (List.mem_cons_of_mem _ d)
    obtain⟨v,F⟩:=Fg A k (λl n=>P (b::l) n) (λl n m w G=>e _ _ _ w G) λl f g=>h (b::l) (by simp[f]) λy p=>by
     rcases List.mem_cons.1 p with rfl|p
     .exact z _ List.mem_cons_self
     .exact g y p
    refine⟨max u v,λx d l f g=>?_⟩;rcases List.mem_cons.1 d with rfl|d
    .exact e _ _ _ (mA u v) (F l f g)
    .exact e _ _ _ (mz u v) (E x d l f g)
  obtain⟨n,t⟩:=C A λ_ d=>d
  refine⟨n,λl f g=>?_⟩;cases l with
  |nil=>simp at f
  |cons x l=>exact t x (g x List.mem_cons_self) l (by simpa using f) λy p=>g y (List.mem_cons_of_mem _ p)
def iD.length{f:SM}{l g:List (ByteArray×MV)}(h:iD f l)(m:iD f g):l.length=g.length:=by
 have n:l.Perm g:=(List.perm_ext_iff_of_nodup (List.Pairwise.of_map _ (λa b d=>by intro e;exact d (by rw[e])) h.1) (List.Pairwise.of_map _ (λa b d=>by intro e;exact d (by rw[e])) m.1)).2 λe=>by
  obtain⟨k,y⟩:=e;rw[h.2,m.2]
 exact n.length_eq
def nr{T:dw}:∀(c:aG) (s:St) (K:Ex->St->Prop),W T c s K->∃e s',PQ T c s e s'/\K e s':=by
 intro c;induction c with
 |skip=>intro s K h;exact⟨.normal,s,⟨0,rfl⟩,h⟩
 |native k fs z=>intro s K h;simp only[W]at h
 |aX p=>
  intro s K h;simp only[W]at h;obtain⟨e,s',n,q,f⟩:=xN p s _ h;exact⟨e,s',⟨n,by simp only[aR,q]⟩,f⟩
 |km pre xa post kill=>
  intro s K h;simp only[W]at h;obtain⟨e,s',n,q,f⟩:=Fb h;exact⟨e,_,⟨n,by simp only[aR,q]⟩,f⟩
 |panic p x=>
  intro s K h;simp only[W]at h;obtain⟨s',n,q,t,v,hx,f⟩:=fq p s _ h;exact⟨_,_,⟨n,by simp only[aR,q,hx]⟩,f⟩
 |forIn str mm hid p x y z D E P=>
  intro s K h;simp only[W]at h;split at h
  .rename_i Z A q;obtain⟨b,H,u,h⟩:=h;obtain⟨e,I,w,F,f⟩:=tM D _ _ _ h;cases e with
   |normal=>
    obtain⟨e,O,C,f⟩:=E _ _ f;obtain⟨B,C⟩:=C.at;cases e with
    |normal=>
     obtain⟨e,s3,L,f⟩:=P _ _ f;obtain⟨M,L⟩:=L.at;exact⟨e,s3,⟨max (max w B) M,by simp only[aR,H,u,cQ,F _ (show w<=max (max w B) M by omega),C _ (show B<=max (max w B) M by omega)];exact L _ ae⟩,f⟩
    |exit id|ret|panic v=>exact⟨_,O,⟨max w B,by simp only[aR,H,u,cQ,F _ (mz w B),C _ (mA w B)]⟩,f⟩
   |exit id|ret|panic v=>exact⟨_,I,⟨w,by simp only[aR,H,u,cQ,F _ (Nat.le_refl _)]⟩,f⟩
  .rename_i Z A q;obtain⟨c,l0,r,O,hc,N,R,f⟩:=h;have S:∀l,iD c l->∃n,∀m,n<=m->ld (fe (dQ T.A T.X m) p (aR (dQ T.A T.X m) m x)) (aR (dQ T.A T.X m) m y) A (Z::A::q) l s=some (r,O):=by
    intro l U;obtain⟨e,I,w,F,V⟩:=tM D _ _ _ (R l U);cases e with
    |normal=>
     obtain⟨e,s3,C,J,x4⟩:=E _ _ V;subst J;subst x4;obtain⟨B,C⟩:=C.at;exact⟨max w B,λm hm=>by unfold ld;rw[F m ae];exact C m ae⟩
    |exit id|ret|panic v=>obtain⟨rfl,rfl⟩:=V;exact⟨w,λm hm=>by unfold ld;rw[F m hm]⟩
   obtain⟨n,u⟩:=Fg l0 l0.length (λl n=>iD c l->∀m,n<=m->ld (fe (dQ T.A T.X m) p (aR (dQ T.A T.X m) m x)) (aR (dQ T.A T.X m) m y) A (Z::A::q) l s=some (r,O)) (λl n m xe hp J k f=>hp J k ae) (λl _ _=>by
    by_cases J:iD c l
    .obtain⟨n,u⟩:=S l J;exact⟨n,λ_=>u⟩
    .exact⟨0,λh=>absurd h J⟩)
   have X:∀m,n<=m->nk (fe (dQ T.A T.X m) p (aR (dQ T.A T.X m) m x)) (aR (dQ T.A T.X m) m y) s mm A (Z::A::q)=some (r,O):=λm hm=>Bf hc ⟨l0,N⟩ λl U=>u l (U.length N) (λe J=>(N.2 e.1 e.2).2 ((U.2 e.1 e.2).1 J)) U m hm
   cases r with
   |normal=>
    obtain⟨e,s3,L,f⟩:=P _ _ f;obtain⟨M,L⟩:=L.at;exact⟨e,s3,⟨max n M,by simp only[aR,X _ (mz n M)];exact L _ (mA n M)⟩,f⟩
   |exit id|ret|panic v=>exact⟨_,O,⟨n,by simp only[aR,X _ (Nat.le_refl _)]⟩,f⟩
  .exact h.elim
 |bE d p=>
  intro s K h;simp only[W]at h;obtain⟨s',n,q,f⟩:=yR p s _ h;exact⟨_,_,⟨n,by simp only[aR,q]⟩,f⟩
 |ret=>intro s K h;exact⟨.ret,s,⟨0,rfl⟩,h⟩
 |exit id=>intro s K h;exact⟨.exit id,s,⟨0,rfl⟩,h⟩
 |loop c _=>intro s K h;exact h
 |ghost g c ih=>
  intro s K h;simp only[W]at h;obtain⟨I,hg,h⟩:=n5 h
  .obtain⟨e,s',⟨n,u⟩,f⟩:=ih I K h;exact⟨e,s',⟨n,by simp only[aR,hg];exact u⟩,f⟩
 |region d p kill=>
  intro s K h;simp only[W]at h;obtain⟨s',n,q,f⟩:=fq p s _ h;exact⟨_,_,⟨n,by simp only[aR,q]⟩,f⟩
 |jY Y p kill=>
  intro s K h;simp only[W]at h;obtain⟨s',n,q,hq,f⟩:=fq p s _ h;exact⟨_,_,⟨n,by simp only[aR,q,hq,cQ]⟩,f⟩
 |nu Y rk xb p ks kill=>
  intro s K h;simp only[W]at h;obtain⟨I,n,q,f⟩:=G4 h;exact⟨_,_,⟨n,by simp only[aR,q]⟩,f⟩
 |seq a b x6 x7=>
  intro s K h;simp only[W]at h;obtain⟨e,I,F,f⟩:=x6 s _ h;cases e with
  |normal=>
   obtain⟨e,s',C,x8⟩:=x7 I K f;obtain⟨w,g1⟩:=F.at;obtain⟨B,g2⟩:=C.at;exact⟨e,s',⟨max w B,by simp only[aR,g1 _ (mz w B)];exact g2 _ (mA w B)⟩,x8⟩
  |exit id|ret|panic v=>obtain⟨w,g1⟩:=F;exact⟨_,_,⟨w,by simp only[aR,g1]⟩,f⟩
 |cond o x y D E=>
  intro s K h;simp only[W]at h;obtain⟨b,H,h⟩:=n5 h;have hv:s.ev o=some (.p (.bool b)):=by
   unfold St.xM at H;split at H
   .rename_i hv;cases H;exact hv
   .cases H
  .cases b with
   |true=>
    rw[uO]at h;obtain⟨e,s',⟨n,u⟩,f⟩:=D s K h;exact⟨e,s',⟨n,by simp only[aR,hv];exact u⟩,f⟩
   |false=>
    rw[vu]at h;obtain⟨e,s',⟨n,u⟩,f⟩:=E s K h;exact⟨e,s',⟨n,by simp only[aR,hv];exact u⟩,f⟩
 |block id c ih=>
  intro s K h;simp only[W]at h;obtain⟨e,I,⟨n,u⟩,f⟩:=ih s _ h;cases e with
  |normal|ret|panic v=>exact⟨_,_,⟨n,by simp only[aR,u]⟩,f⟩
  |exit k=>
   simp only at f;by_cases G:k=id
   .rw[aq G]at f;exact⟨_,_,⟨n,by simp only[aR,u,aq G]⟩,f⟩
   .rw[ak G]at f;exact⟨_,_,⟨n,by simp only[aR,u,ak G]⟩,f⟩
def Jv{T:dw}{c:aG}{s g:St}{e:Ex}{K:Ex->St->Prop}(x:PQ T c s e g)(l:match(generalizing:=false) e with
  | .normal=>W T (.loop c) g K
  |e=>K e g):W T (.loop c) s K:=by
 obtain⟨d,m⟩:=x.at;cases e with
 |normal=>
  obtain⟨e,s',y,n⟩:=l;obtain⟨f,z⟩:=y.at;refine⟨e,s',⟨max d f+1,?_⟩,n⟩;have A:=m (max d f+1) ae;have w:=z (max d f) ae;simp only[aR]at w⊢;rw[lh,A];simp only;have p:∀(k:Nat) (s:St),lh (aR (dQ T.A T.X (max d f)) (max d f) c) k s=some (e,s')->lh (aR (dQ T.A T.X (max d f+1)) (max d f+1) c) k s=some (e,s'):=by
   intro k;induction k with
   |zero=>intro s h;simp[lh]at h
   |succ k B=>
    intro s h;simp only[lh]at h⊢;cases t:aR (dQ T.A T.X (max d f)) (max d f) c s with
    |none=>rw[t]at h;cases h
    |some q=>
     rw[t]at h;rw[j0 (gk _ _ (iU _)) (iU _) _ _ _ t];obtain⟨C,u⟩:=q;cases C with
     |normal=>exact B u h
     |exit id|ret|panic v=>exact h
  exact p _ _ w
 |exit id=>
  refine⟨.exit id,g,⟨d+1,?_⟩,l⟩;simp only[aR];rw[lh,m (d+1) ae]
 |ret=>
  refine⟨.ret,g,⟨d+1,?_⟩,l⟩;simp only[aR];rw[lh,m (d+1) ae]
 |panic v=>
  refine⟨.panic v,g,⟨d+1,?_⟩,l⟩;simp only[aR];rw[lh,m (d+1) ae]
def Xe{T:dw}{c:aG}{s:St}{K:Ex->St->Prop}(h:W T c s λe s'=>match e with
  | .normal=>W T (.loop c) s' K
  |e=>K e s'):W T (.loop c) s K:=by
 obtain⟨e,g,d,f⟩:=nr c s _ h;exact Jv d f
def LI(I:Nat->St->Prop)(m:Nat)(K:Ex->St->Prop)(e:Ex)(s:St):Prop:=
 match e with
 | .normal=>∃d,d<m/\I d s
 |e=>K e s
def TZ{I:Nat->St->Prop}{m:Nat}{K:Ex->St->Prop}{s:St}{i:Nat}:LI I m K (.exit i) s=K (.exit i) s:=rfl
def Xb{I:Nat->St->Prop}{m:Nat}{K:Ex->St->Prop}{s:St}:LI I m K .ret s=K .ret s:=rfl
def Qc{I:Nat->St->Prop}{m:Nat}{K:Ex->St->Prop}{s:St}{v:PV}:LI I m K (.panic v) s=K (.panic v) s:=rfl
def LI.next{I:Nat->St->Prop}{m m':Nat}{K:Ex->St->Prop}{s:St}(h:m'<m)(d:I m' s):LI I m K .normal s:=⟨m',h,d⟩
def bL{T:dw}{c:aG}{K:Ex->St->Prop}(I:Nat->St->Prop)(h:∀m s,I m s->W T c s (LI I m K))(m:Nat)(s:St)(g:I m s):W T (.loop c) s K:=by
 induction m using Nat.strongRecOn generalizing s with
 |ind m k=>
  obtain⟨e,l,n,f⟩:=nr c s _ (h m s g);refine Jv n ?_;cases e with
  |normal=>obtain⟨p,q,d⟩:=f;exact k p q l d
  |exit _|ret|panic _=>exact f
def LK(T:dw)(c:aG)(K:Ex->St->Prop)(e:Ex)(s:St):Prop:=
 match e with
 | .normal=>W T (.loop c) s K
 |e=>K e s
def aU{T:dw}{c:aG}{s:St}{K:Ex->St->Prop}(h:W T c s (LK T c K)):W T (.loop c) s K:=Xe h
def Vj{T:dw}{c:aG}{K:Ex->St->Prop}{s:St}{i:Nat}:LK T c K (.exit i) s=K (.exit i) s:=rfl
def P8{T:dw}{c:aG}{K:Ex->St->Prop}{s:St}{v:PV}:LK T c K (.panic v) s=K (.panic v) s:=rfl
def VZ{T:dw}{c:aG}{K:Ex->St->Prop}{s:St}:LK T c K .ret s=K .ret s:=rfl
def SK(T:dw)(b:aG)(K:Ex->St->Prop)(e:Ex)(s:St):Prop:=
 match e with
 | .normal=>W T b s K
 |e=>K e s
def RD(T:dw)(b:aG)(K:Ex->St->Prop):SK T b K=Ei (W T b) K:=by
 funext e s;cases e<;>rfl
def MM{T:dw}{c:aG}{K:Ex->St->Prop}{s:St}:SK T c K .normal s=W T c s K:=rfl
def Se{T:dw}{c:aG}{K:Ex->St->Prop}{s:St}{i:Nat}:SK T c K (.exit i) s=K (.exit i) s:=rfl
def Pv{T:dw}{c:aG}{K:Ex->St->Prop}{s:St}{v:PV}:SK T c K (.panic v) s=K (.panic v) s:=rfl
def Xm{T:dw}{c:aG}{K:Ex->St->Prop}{s:St}:SK T c K .ret s=K .ret s:=rfl
def BK(id:Nat)(K:Ex->St->Prop)(e:Ex)(s:St):Prop:=
 match e with
 | .exit d=>if d=id then K .normal s else K (.exit d) s
 |e=>K e s
def Mi{i:Nat}{K:Ex->St->Prop}{s:St}:BK i K .normal s=K .normal s:=rfl
def UL{K:Ex->St->Prop}{s:St}{i j:Nat}:BK i K (.exit j) s=if j=i then K .normal s else K (.exit j) s:=rfl
def P7{i:Nat}{K:Ex->St->Prop}{s:St}{v:PV}:BK i K (.panic v) s=K (.panic v) s:=rfl
def VT{i:Nat}{K:Ex->St->Prop}{s:St}:BK i K .ret s=K .ret s:=rfl
@[congr] theorem aar {T:dw} {c:aG} {s s':St} {K:Ex->St->Prop} (h:s=s'):W T c s K=W T c s' K:=by rw[h]
@[congr] theorem XA {T:dw} {l:List aj} {s s':St} {K:St->Prop} (h:s=s'):cv T l s K=cv T l s' K:=by rw[h]
@[congr] theorem YE {T:dw} {d:dX} {s s':St} {K:DV×Heap×Nat->Prop} (h:s=s'):Au T d s K=Au T d s' K:=by rw[h]
@[congr] theorem Wi {T:dw} {c d:Bool×Option (FuncId×List DV)} {H e:Heap} {n f:Nat} {K:DV×Heap×Nat->Prop} (g:c=d) (h:H=e) (k:n=f):uL T c H n K=uL T d e f K:=by rw[h,g,k]
@[congr] theorem Z3 {T:dw} {c:aG} {e d:Ex} {s s':St} {K:Ex->St->Prop} (f:e=d) (h:s=s'):SK T c K e s=SK T c K d s':=by rw[h,f]
@[congr] theorem Z5 {T:dw} {c:aG} {e d:Ex} {s s':St} {K:Ex->St->Prop} (f:e=d) (h:s=s'):LK T c K e s=LK T c K d s':=by rw[h,f]
@[congr] theorem Z2 {I:Nat->St->Prop} {m:Nat} {e d:Ex} {s s':St} {K:Ex->St->Prop} (f:e=d) (h:s=s'):LI I m K e s=LI I m K d s':=by rw[h,f]
@[congr] theorem aad {i:Nat} {e d:Ex} {s s':St} {K:Ex->St->Prop} (f:e=d) (h:s=s'):BK i K e s=BK i K d s':=by rw[h,f]
theorem VR{T:dw}{s:St}{K:Ex->St->Prop}:W T .skip s K=K .normal s:=rfl
def Y2{T:dw}{s:St}{K:Ex->St->Prop}:W T .ret s K=K .ret s:=rfl
def Xn{T:dw}{i:Nat}{s:St}{K:Ex->St->Prop}:W T (.exit i) s K=K (.exit i) s:=rfl
def XZ{T:dw}{a b:aG}{s:St}{K:Ex->St->Prop}:W T (.seq a b) s K=W T a s (SK T b K):=rfl
def RU{T:dw}{i:Nat}{a:aG}{s:St}{K:Ex->St->Prop}:W T (.block i a) s K=W T a s (BK i K):=rfl
def Xf{T:dw}{c:DO}{x y:aG}{s:St}{K:Ex->St->Prop}:W T (.cond c x y) s K=oh (s.xM c) λb=>Br b (W T x s K) (W T y s K):=rfl
def RM{T:dw}{g:Ea}{c:aG}{s:St}{K:Ex->St->Prop}:W T (.ghost g c) s K=oh (gz g s) λs'=>W T c s' K:=rfl
def PN{T:dw}{d:Bool}{f:List aj}{e:List Nat}{s:St}{K:Ex->St->Prop}:W T (.region d f e) s K=cv T f s λs'=>K .normal {s' with env:=da s'.env e}:=rfl
def eX(d:List gB)(R:DV->St->Prop)(e:Ex)(s:St):Prop:=(e=.normal\/e=.ret)/\∃v,fP s d=some v/\R v s
@[congr] theorem Xt {d:List gB} {R:DV->St->Prop} {e f:Ex} {s s':St} (g:e=f) (h:s=s'):eX d R e s=eX d R f s':=by rw[h,g]
theorem QJ{d:List gB}{R:DV->St->Prop}{s:St}:eX d R .ret s=oh (fP s d) λv=>R v s:=by
 unfold eX oh;cases fP s d<;>simp
def Hk{d:List gB}{R:DV->St->Prop}{s:St}:eX d R .normal s=oh (fP s d) λv=>R v s:=by
 unfold eX oh;cases fP s d<;>simp
def lB{d:aK}{n:Nat}{c:aG}{s:St}{r:Ex×St}(h:aR d n c s=some r):ik c=none:=by
 cases c<;>first|rfl|(simp only[aR]at h;cases h)
def bD{T:dw}{f:FuncId}{af:av}(k:T.A f=some af){args:List PV}{r:PV}(l:args.length=af.nparams)
  (h:W T af.body {env:=ai 0 (args.map aI),heap:=[],next:=0,marks:=[0]} (eX af.results λv s=>aS s.heap dep v=some r))(d:af.rs=false:=by rfl):PS T f args r:=by
 obtain⟨e,s',m,p,v,q,t⟩:=nr _ _ _ h;obtain⟨n,u⟩:=m.at;refine⟨n+1,?_⟩;rw[dQ];simp only[k];have g:=j0 (aK.le.refl (jn T.A T.X n)) (iU n) _ _ _ (u n (Nat.le_refl _));unfold prun jH oZ;rw[lB g,d];simp only;rw[aq (by simpa using l),g];rcases p with rfl|rfl<;>simp only[q,t,Bool.false_eq_true,cK]
def wO{T:dw}{f:FuncId}{af:av}(p:T.A f=some af){args:List DV}{H:Heap}{g:Nat}{r:DV}{l:Heap}{d:Nat}(q:args.length=af.nparams)
  (h:W T af.body {env:=ai 0 args,heap:=H,next:=g,marks:=[g]} (eX af.results λv s=>v=r/\s.heap=l/\s.next=d))(k:af.rs=false:=by rfl):BS T f args H g r l d:=by
 obtain⟨e,s',t,u,v,w,rfl,rfl,rfl⟩:=nr _ _ _ h;obtain⟨n,x⟩:=t.at;refine⟨n+1,?_⟩;rw[dQ];simp only[p];have m:=j0 (aK.le.refl (jn T.A T.X n)) (iU n) _ _ _ (x n (Nat.le_refl _));unfold jH oZ;rw[lB m,k];simp only;rw[aq q,m];rcases u with rfl|rfl<;>simp only[w,Bool.false_eq_true,cK]
def CS(T:dw)(f:FuncId)(args:List DV)(H:Heap)(g:Nat):(DV×Heap×Nat)⊕(PV×Heap)->Prop
 | .inl (r,d,e)=>BS T f args H g r d e
 | .inr (v,d)=>DS T f args H g v d
def de(c:Nat):Heap->Bool
 |[]=>true
 |(_,b)::r=>b.below c&&de c r
def mT(c:Nat):∀H:Heap,H.all (λx=>x.2.below c)=de c H
 |[]=>rfl
 |(k,b)::r=>by rw[List.all_cons,mT c r];rfl
def L2(c:Nat)(s:St):jB c s=if s.env.all (λx=>below c dep x.2)&&de c (aD c s.heap)&&decide (c<=s.next)then some {s with heap:=aD c s.heap,next:=c}else none:=by
 unfold jB;rw[<-mT]
def Left(d:Nat)(e:Heap)(s:St):Prop:=de d (aD d s.heap)=true/\d<=s.next/\aD d s.heap=e
def Fin(h:List gB)(d:Nat)(o:(DV×Heap×Nat)⊕(PV×Heap))(e:Ex)(s:St):Prop:=
 match o with
 | .inl (r,f,g)=>eX h (λv s=>v=r/\g=d/\below d dep v=true/\Left d f s) e s
 | .inr (v,f)=>e=.panic v/\Left d f s
def hZ{T:dw}{f:FuncId}{af:av}(q:T.A f=some af){args:List DV}{H:Heap}{g:Nat}{o:(DV×Heap×Nat)⊕(PV×Heap)}(t:args.length=af.nparams)
  (h:W T af.body {env:=ai 0 args,heap:=H,next:=g,marks:=[g]} (Fin af.results g o))(l:af.rs=true:=by rfl):CS T f args H g o:=by
 obtain⟨r,w,x⟩|⟨v,w⟩:=o
 .obtain⟨e,s',m,y,v,z,rfl,rfl,k,u,A,rfl⟩:=nr _ _ _ h;rw[<-mT]at u;obtain⟨n,p⟩:=m.at;refine⟨n+1,?_⟩;rw[dQ];simp only[q];have d:=j0 (aK.le.refl (jn T.A T.X n)) (iU n) _ _ _ (p n (Nat.le_refl _));unfold jH oZ;rw[lB d,l];simp only;rw[aq t,d];rcases y with rfl|rfl<;>simp[z,k,u,A]
 .obtain⟨e,s',m,rfl,k,p,rfl⟩:=nr _ _ _ h;rw[<-mT]at k;obtain⟨n,d⟩:=m.at;refine⟨n+1,?_⟩;rw[dQ];simp only[q];have d:=j0 (aK.le.refl (jn T.A T.X n)) (iU n) _ _ _ (d n (Nat.le_refl _));unfold sH;rw[aq t,d];simp only;rw[aq (by simp[k,p])]
def ib{T:dw}{f:FuncId}{af:av}(k:T.A f=some af){args:List DV}{H:Heap}{d:Nat}{r:DV}{e:Heap}(l:args.length=af.nparams)
  (h:W T af.body {env:=ai 0 args,heap:=H,next:=d,marks:=[d]} (Fin af.results d (.inl (r,e,d))))(g:af.rs=true:=by rfl):BS T f args H d r e d:=
 hZ (o:=.inl (r,e,d)) k l h g
def Ul{g:List gB}{f d:Nat}{r:DV}{h:Heap}{e:Ex}{s:St}:Fin g f (.inl (r,h,d)) e s=eX g (λv s=>v=r/\d=f/\below f dep v=true/\Left f h s) e s:=c9 rfl rfl
def Vb{g:List gB}{d:Nat}{v:PV}{f:Heap}{e:Ex}{s:St}:Fin g d (.inr (v,f)) e s=(e=.panic v/\Left d f s):=c9 rfl rfl
def PS.calls{P:Program}{T:dw}(d:P.follows .mixedOrders=true)(g:∀f e,T.A f=some e->sM P f e)(k:bV P T.X){f:FuncId}{args:List PV}{r:PV}(h:PS T f args r):sO P f args r:=by
 obtain⟨n,l⟩:=h;exact(C1 d g k n).pure f args r l
def JD(i:Nat):(i:Int)+1=((i+1:Nat):Int):=rfl
def DW(b:Bool):(b==true)=b:=by cases b<;>rfl
def BX(b:Bool):(b==false)=!b:=by cases b<;>rfl
section
variable{T:dw}{s s':St}{K:Ex->St->Prop}{a b c:aG}{i j:Nat}
def fJ(h:W T (.loop c) s K):LK T c K .normal s:=h
def aH{d:aG}(e:c=d)(h:W T d s K):W T c s K:=by rw[e];exact h
variable{o:aj}{r:List aj}{Q:St->Prop}
def DQ{f:FuncId}{l:List DV}{v:DV}{H:Heap}{n:Nat}(d:gd o.guard s.env=some true)(e:jt s o.op=some (true,some (f,l)))(g:BS T f l s.heap s.next v H n)
  (k:jF s o.dst (v,H,n)=s')(h:cv T r s' Q):cv T (o::r) s Q:=by
 subst k;simp only[cv,d,kC,uO,Au,e,uL];exact⟨v,H,n,g,h⟩
end
@[congr] theorem WX {T:dw} {l:List (aj×List Nat)} {s s':St} {K:St->Prop} (h:s=s'):mX T l s K=mX T l s' K:=by rw[h]
section
variable{T:dw}{s s':St}{K:Ex->St->Prop}{a b c:aG}
def Mu{d:List (aj×List Nat)}:W T (.aX d) s K=iT T d s K:=rfl
def L9:iT T [] s K=K .normal s:=rfl
def Gz{o:aj}{k:List Nat}{r:List (aj×List Nat)}(h:cv T [o] s λs'=>iT T r {s' with env:=da s'.env k} K):iT T ((o,k)::r) s K:=.inl h
def WK{o:aj}{k:List Nat}{r:List (aj×List Nat)}{f:FuncId}{l:List DV}{v:PV}{H:Heap}(d:oU s o=some (f,l))(e:DS T f l s.heap s.next v H)(h:K (.panic v) {s with env:=[],heap:=H}):iT T ((o,k)::r) s K:=.inr ⟨f,l,v,H,d,e,h⟩
def V7{o:aj}{k:List Nat}{r:List (aj×List Nat)}{f:FuncId}{l:List DV}{q:(DV×Heap×Nat)⊕(PV×Heap)}(d:oU s o=some (f,l))(h:CS T f l s.heap s.next q)
  (m:∀x,q=.inl x->iT T r {jF s o.dst x with env:=da (jF s o.dst x).env k} K)(n:∀v H,q=.inr (v,H)->K (.panic v) {s with env:=[],heap:=H}):iT T ((o,k)::r) s K:=by
 have e:gd o.guard s.env=some true/\jt s o.op=some (true,some (f,l)):=by
  unfold oU at d;split at d
  .rename_i w args e p;cases g:gH s args with
   |none=>rw[g]at d;cases d
   |some y=>
    rw[g]at d;simp only[ay,bY]at d;obtain⟨rfl,rfl⟩:=d;exact⟨e,by simp only[p,jt,g]⟩
  .cases d
 obtain⟨x,t,u⟩|⟨v,t⟩:=q
 .exact Gz (DQ e.1 e.2 h rfl (m _ rfl))
 .exact WK d h (n _ _ rfl)
def SN{d:List aj}{x:DO}:W T (.panic d x) s K=cv T d s λs'=>∃t v,s'.ev x=some (.p (.iface t v))/\K (.panic (.iface t v)) {s' with env:=[]}:=rfl
def Mt{pre:List aj}{d:aj}{post:List aj}{f:List Nat}:W T (.km pre d post f) s K=B8 T pre d post s λe s'=>K e {s' with env:=da s'.env f}:=rfl
def PF{m f d:Nat}{g:List Nat}{e:List aj}{x y z:aG}{b:ByteArray}(k:ag s.env m=some (.p (.str b)))(l:(f::d::g).all (λt=>(ag s.env t).isNone)=true)
  (h:qZ T (W T x) e d (f::d::g) ((runesFrom b (b.size+1) 0).map mg) s (SK T y (SK T z K))):W T (.forIn true m (f::d::g) e x y z) s K:=by
 rw[RD,RD]at h;exact⟨b,k,l,h⟩
def FB{B:St->(Ex->St->Prop)->Prop}{d:List aj}{e:Nat}{hid:List Nat}:qZ T B d e hid [] s K=K .normal s:=rfl
def FK(T:dw)(B:St->(Ex->St->Prop)->Prop)(d:List aj)(f:Nat)(hid:List Nat)(r:List DV)(g:List Nat)(K:Ex->St->Prop)(e:Ex)(s':St):Prop:=
 match e with
 | .normal=>qZ T B d f hid r {s' with env:=da s'.env hid,marks:=g} K
 | .ret=>K .ret {s' with marks:=g}
 | .panic v=>K (.panic v) {s' with marks:=g}
 | .exit _=>False
end
attribute [irreducible] Fin LI W cv mX iT qZ FK SK BK LK eX oh
end
end Go.Dv
