/- Lemmas for the law of this claim. -/
import Derived.Test.YtcphhjkcgikdgaaGreatDoorP25
import Derived.Test.YtcphhjkcgikdgaaGreatDoorP26
set_option linter.all false
set_option maxRecDepth 100000
set_option maxHeartbeats 8000000
namespace Go.Dv.Tryz
section
open Go Go.Dv
section
variable{L T:Heap}{nx:Nat}
def hZ.c1{b:ca}(h:hZ L T nx)(a:b.below (nx+1)=true:=by rfl):hZ ((nx,b)::L) T (nx+1):=h.cons a
def hZ.c2{b c:ca}(h:hZ L T nx)(a:b.below (nx+1)=true:=by rfl)(d:c.below (nx+1+1)=true:=by rfl):hZ ((nx+1,c)::(nx,b)::L) T (nx+2):=(h.cons a).cons d
def hZ.c3{b c d:ca}(h:hZ L T nx)(a:b.below (nx+1)=true:=by rfl)(e:c.below (nx+1+1)=true:=by rfl)(f:d.below (nx+2+1)=true:=by rfl):hZ ((nx+2,d)::(nx+1,c)::(nx,b)::L) T (nx+3):=((h.cons a).cons e).cons f
def mw{P q:Prop}(k:q)(h:Bx q->P:=by
 intro k;refine fZ (af:=UY) rfl rfl ?_;unfold UY;dsimp only[aj,fX];exact k.q):P:=h ⟨k⟩
def Pf(k:Kc)(m:MS)(l:Int)(a:bX)(h:hZ L T nx)(H:df a.n)(J:dx m.reads)(K:m.reads.length<=1099511627776)(C:k.rd.length<=1048576)(D:k.st.length<=1099511627776):
  CS tb 174 [.ptr 7 0,.p (.int .i64 l),fX a] (L++mb T k m) nx (cC L T k nx fX (gj k.cz l a m)):=by
 obtain⟨x,rfl⟩:=h.ex;have d:=h.lf k;have b:=h.lz k;by_cases u:l=9
 .subst u;by_cases c:a.k=1
  .rcases q:gi (qY a.n)with e|v
   .skip
    have em:gj k.cz 9 a m=.no 2 e E m:=by simp[gj,c,q,jd,bB]
    rw[em];simp only[cC];refine mw ?_;exact gD (bf d.q c) (yX a.n) (λ{z}=>@bu.d2 _ _ _ (b z) λk=>aK k) (λ{z}=>@bu.d2 _ _ _ (b z) λk=>jU (iV (qY a.n) k) q) k0
   .skip
    have em:gj k.cz 9 a m=.ok v m:=by simp[gj,c,q,jd]
    rw[em];simp only[cC];refine mw ?_;exact gR (bf d.q c) (yX a.n) (bf (λ{z}=>@bu.d2 _ _ _ (b z) λk=>aK k) (λ{z}=>@bu.d2 _ _ _ (b z) λk=>js (iV (qY a.n) k) q)) k0
  .skip
   have em:gj k.cz 9 a m=.no 2 1009 E m:=by simp[gj,c,bB]
   rw[em];simp only[cC];refine mw ?_;exact gD (bf d.q c) trivial trivial (λ{z}=>@bu.d2 _ _ _ (b z) λk=>b8 k) k0
 by_cases f:l=18
 .subst f;by_cases c:a.k=3
  .skip
   have em:gj k.cz 18 a m=.ok (gy (decide (a.n=0))) m:=by simp[gj,c]
   rw[em];simp only[cC];refine mw ?_;refine gR (bf d.q c) (λ{w}=>rA w) (λ{z}=>@bu.d2 _ _ _ (b z) λk=>aK k) (k1 ?_);all_goals simp[gy]
  .skip
   have em:gj k.cz 18 a m=.no 2 1009 E m:=by simp[gj,c,bB]
   rw[em];simp only[cC];refine mw ?_;exact gD (bf d.q c) trivial trivial (λ{z}=>@bu.d2 _ _ _ (b z) λk=>b8 k) k0
 by_cases g:l=20
 .subst g;by_cases c:a.k=1
  .rcases q:lC (qF a.n)with e|v
   .skip
    have em:gj k.cz 20 a m=.no 2 e E m:=by simp[gj,c,q,jd,bB]
    rw[em];simp only[cC];refine mw ?_;exact gD (bf d.q c) (CT a.n H) (λ{z}=>@bu.d2 _ _ _ (b z) λk=>aK k) (λ{z}=>@bu.d2 _ _ _ (b z) λk=>jU (td (qF a.n) k) q) k0
   .skip
    have em:gj k.cz 20 a m=.ok v m:=by simp[gj,c,q,jd]
    rw[em];simp only[cC];refine mw ?_;exact gR (bf d.q c) (CT a.n H) (bf (λ{z}=>@bu.d2 _ _ _ (b z) λk=>aK k) (λ{z}=>@bu.d2 _ _ _ (b z) λk=>js (td (qF a.n) k) q)) k0
  .skip
   have em:gj k.cz 20 a m=.no 2 1009 E m:=by simp[gj,c,bB]
   rw[em];simp only[cC];refine mw ?_;exact gD (bf d.q c) trivial trivial (λ{z}=>@bu.d2 _ _ _ (b z) λk=>b8 k) k0
 by_cases i:l=21
 .subst i;by_cases c:a.k=2
  .skip
   have em:gj k.cz 21 a m=.ok (dt a.s.size) m:=by simp[gj,c]
   rw[em];simp only[cC];refine mw ?_;refine gR (bf d.q c) (λ{w}=>qf w) (λ{z}=>@bu.d2 _ _ _ (b z) λk=>aK k) (k1 ?_);all_goals simp[dt]
  .skip
   have em:gj k.cz 21 a m=.no 2 1009 E m:=by simp[gj,c,bB]
   rw[em];simp only[cC];refine mw ?_;exact gD (bf d.q c) trivial trivial (λ{z}=>@bu.d2 _ _ _ (b z) λk=>b8 k) k0
 by_cases c:a.k=2
 .have p:=OL (L:=(x+13,.var false [.p (.int .i64 0),.p (.int .i64 0),.p (.str ⟨#[]⟩)])::(x+12,.var false [.p (.int .i64 a.k),.p (.int .i64 a.n),.p (.str a.s)])::L) k m a.s h.c2 J K C D;rw[c]at p;rcases o:fB k.cz a.s m with⟨v,F⟩|⟨M,e,G,F⟩
  .have t:∀r:An,mj l v=r->gj k.cz l a m=jd r F:=λr C=>by subst C;simp[gj,u,f,g,i,c,o,Rs.bind]
   by_cases y:l=24
   .subst y;have j:mj 24 v=.ok (gy (!decide (v.k=0))):=by simp[mj,]
    have em:=t _ j;simp only[jd,bB]at em;rw[em];simp only[cC];refine mw ?_;refine gR (bf d.q c) (λ{w}=>rA w) (bf (λ{z}=>@bu.d2 _ _ _ (b z) λk=>aK k) (bG p o)) (k1 ?_);all_goals simp[gy]
   by_cases A:l=22
   .subst A;by_cases n:v.k=0
    .skip
     have j:mj 22 v=.ok (dt 0):=by simp[mj,n]
     have em:=t _ j;simp only[jd,bB]at em;rw[em];simp only[cC];refine mw ?_;refine gR (c9 d.q c n) (λ{w}=>qf w) (bf (λ{z}=>@bu.d2 _ _ _ (b z) λk=>aK k) (bG p o)) (k1 ?_);all_goals simp[dt]
    by_cases s:v.k=1
    .skip
     have j:mj 22 v=.ok v:=by simp[mj,n,s]
     have em:=t _ j;simp only[jd,bB]at em;rw[em];simp only[cC];refine mw ?_;exact gR (eY d.q c n s) trivial (bf (λ{z}=>@bu.d2 _ _ _ (b z) λk=>aK k) (bG p o)) k0
    .skip
     have j:mj 22 v=.error 1003:=by simp[mj,n,s]
     have em:=t _ j;simp only[jd,bB]at em;rw[em];simp only[cC];refine mw ?_;exact gD (eY d.q c n s) trivial (bf (λ{z}=>@bu.d2 _ _ _ (b z) λk=>aK k) (bG p o)) (λ{z}=>@bu.d3 _ _ _ (b z) λk=>gu 1003 k) k0
   by_cases B:l=23
   .subst B;by_cases n:v.k=0
    .have I:lC E=.ok ⟨2,0,E⟩:=by unfold lC;rw[an (by decide)]
     have j:mj 23 v=.ok ⟨2,0,E⟩:=by simp[mj,n,I]
     have em:=t _ j;simp only[jd,bB]at em;rw[em];simp only[cC];refine mw ?_;exact gR (c9 d.q c n) trivial (c9 (λ{z}=>@bu.d2 _ _ _ (b z) λk=>aK k) (bG p o) (λ{z}=>@bu.d3 _ _ _ (b z) λk=>js (td E k) I)) k0
    by_cases s:v.k=2
    .skip
     have j:mj 23 v=.ok v:=by simp[mj,n,s]
     have em:=t _ j;simp only[jd,bB]at em;rw[em];simp only[cC];refine mw ?_;exact gR (eY d.q c n s) trivial (bf (λ{z}=>@bu.d2 _ _ _ (b z) λk=>aK k) (bG p o)) k0
    .skip
     have j:mj 23 v=.error 1003:=by simp[mj,n,s]
     have em:=t _ j;simp only[jd,bB]at em;rw[em];simp only[cC];refine mw ?_;exact gD (eY d.q c n s) trivial (bf (λ{z}=>@bu.d2 _ _ _ (b z) λk=>aK k) (bG p o)) (λ{z}=>@bu.d3 _ _ _ (b z) λk=>gu 1003 k) k0
   .skip
    have j:mj l v=.ok v:=by simp[mj,A,B,y]
    have em:=t _ j;simp only[jd,bB]at em;rw[em];simp only[cC];refine mw ?_;exact gR (ow d.q c u f g i A B y) trivial (bf (λ{z}=>@bu.d2 _ _ _ (b z) λk=>aK k) (bG p o)) k0
  .skip
   have em:gj k.cz l a m=.no M e G F:=by simp[gj,u,f,g,i,c,o,Rs.bind]
   rw[em];simp only[cC];refine mw ?_;exact gD (pS d.q c u f g i) trivial (λ{z}=>@bu.d2 _ _ _ (b z) λk=>aK k) (ff p o) k0
 .skip
  have em:gj k.cz l a m=.no 2 1009 E m:=by simp[gj,u,f,g,i,c,bB]
  rw[em];simp only[cC];refine mw ?_;exact gD (pS d.q c u f g i) trivial trivial (λ{z}=>@bu.d2 _ _ _ (b z) λk=>b8 k) k0
end
end
section
open Go Go.Dv
def Rd(n:Nat)(m a:MS):Prop:=∃r,a={m with reads:=r}/\dx r/\r.length<=m.reads.length+n
def Rd.refl{m:MS}(h:dx m.reads)(n:Nat):Rd n m m:=⟨m.reads,rfl,h,GJ _ _⟩
def Rd.trans{a b:Nat}{m e d:MS}(h:Rd a m e)(f:Rd b e d):Rd (a+b) m d:=by
 obtain⟨r,rfl,n,o⟩:=h;obtain⟨i,rfl,j,l⟩:=f;exact⟨i,rfl,j,by simp only at l;omega⟩
def Rd.le{a b:Nat}{m d:MS}(h:Rd a m d)(e:a<=b):Rd b m d:=by
 obtain⟨r,rfl,f,i⟩:=h;exact⟨r,rfl,f,ae⟩
def AA{b:Type}(P:b->Prop)(d:MS->Prop):Rs b->Prop
 | .ok a m=>P a/\d m
 | .no _ _ _ m=>d m
def AA.bind{b d:Type}{P:b->Prop}{Q:d->Prop}{R S:MS->Prop}{r:Rs b}{f:b->MS->Rs d}(h:AA P R r)(e:∀m,R m->S m)(i:∀a m,P a->R m->AA Q S (f a m)):AA Q S (r.bind f):=by
 cases r with
 |ok a m=>exact i a m h.1 h.2
 |no j c k m=>exact e m h
def AA.imp{b:Type}{P Q:b->Prop}{R S:MS->Prop}{r:Rs b}(h:AA P R r)(e:∀a,P a->Q a)(d:∀m,R m->S m):AA Q S r:=by
 cases r with
 |ok a m=>exact⟨e a h.1,d m h.2⟩
 |no f c k m=>exact d m h
def L3(P:bX->Prop):An->Prop
 | .ok v=>P v
 | .error _=>True
def df.w(n:Int):df (ph n):=by
 unfold df ph;rw[Go.IntKind.wrap_i64];omega
def df.c1:df 1:=⟨by decide,by decide⟩
def df.c2:df 2:=⟨by decide,by decide⟩
def df.c3:df 3:=⟨by decide,by decide⟩
def df.z:df 0:=⟨by decide,by decide⟩
def Tg:E.size<=iq:=by decide
def jA{n:Int}(h:df n):cQ (dt n):=⟨df.c1,h,Tg⟩
def tI(b:Bool):cQ (gy b):=⟨df.c3,by cases b with|false=>exact df.z|true=>exact df.c1,Tg⟩
def zF(s:ByteArray):L3 cQ (lC s):=by
 unfold lC;split
 .trivial
 .exact⟨df.c2,df.z,by simp only[iq];omega⟩
def B9{x:Int×Int}(h:df x.1):L3 cQ (gi x):=by
 unfold gi;split
 .exact jA h
 .split<;>trivial
def xT(a:Int):df (qY a).1:=by
 unfold qY;split
 .exact df.z
 .exact df.w _
def Rx(a b:Int):df (rB a b).1:=by
 unfold rB;split
 .exact df.z
 .exact df.w _
def SB(a b:Int):df (mh a b).1:=by
 unfold mh;split
 .exact df.z
 .exact df.w _
def Va(a b:Int):df (qu a b).1:=by
 unfold qu;split
 .exact df.z
 .split
  .exact xT b
  .split
   .exact xT a
   .split
    .exact df.z
    .exact df.w _
def RJ(a b:Int):df (sK a b).1:=by
 unfold sK;split
 .exact df.z
 .split
  .exact xT a
  .split<;>exact df.w _
def SQ{a b:Int}(h:df a)(e:df b):df (sO a b).1:=by
 unfold sO;split
 .exact df.z
 .rename_i f;split
  .exact df.z
  .split
   .exact df.w _
   .simp only[df]at h⊢;have i:(a.tmod b).natAbs<=a.natAbs:=by rw[Int.natAbs_tmod];exact Nat.mod_le _ _
    by_cases c:a<0
    .have d:a.tmod b<=0:=by
      have:=Int.tmod_nonneg (a:=-a) b ae;rw[Int.neg_tmod]at this;omega
     omega
    .have d:=Int.tmod_nonneg (a:=a) b ae;omega
def Lx{d a b:Int}(h:df a)(e:df b):L3 cQ (fC d a b):=by
 unfold fC;refine B9 ?_;split
 .exact Rx a b
 .split
  .exact SB a b
  .split
   .exact Va a b
   .split
    .exact RJ a b
    .exact SQ h e
def QP{d:Int}{a b:bX}(h:cQ a)(e:cQ b):L3 cQ (dv d a b):=by
 unfold dv;split
 .split
  .exact Lx h.2.1 e.2.1
  .trivial
 .split
  .split
   .exact tI _
   .trivial
  .split
   .split
    .exact tI _
    .trivial
   .split
    .split
     .exact zF _
     .trivial
    .unfold qC;split
     .exact tI _
     .trivial
def Uv{a:Int}{v:bX}(h:cQ v):L3 cQ (mj a v):=by
 unfold mj;split
 .exact tI _
 .split
  .exact jA df.z
  .split
   .exact zF _
   .split
    .trivial
    .exact h
section
variable{c:Cz}(hg:∀k,cQ (c.g k))
def BN{x:An}{m:MS}{R:MS->Prop}(h:L3 cQ x)(a:R m):AA cQ R (jd x m):=by
 cases x with
 |ok v=>exact⟨h,a⟩
 |error e=>exact a
include hg in
theorem PW(a:ByteArray){m:MS}(b:dx m.reads)(d:∀k v,m.own k=some v->cQ v):AA cQ (Rd 1 m) (fB c a m):=by
 unfold fB;split
 .cases e:m.own a with
  |some v=>exact⟨d _ _ e,Rd.refl b 1⟩
  |none=>
   simp only;split
   .exact Rd.refl b 1
   .exact⟨hg a,⟨ins a m.reads,rfl,ot b,A5 a m.reads⟩⟩
 .exact Rd.refl b 1
include hg in
theorem Zy{f:Int}{a:bX}(h:cQ a){m:MS}(e:dx m.reads)(i:∀k v,m.own k=some v->cQ v):AA cQ (Rd 1 m) (gj c f a m):=by
 have b:=Rd.refl e 1;unfold gj;split
 .split
  .exact BN (B9 (xT _)) b
  .exact b
 .split
  .split
   .exact⟨tI _,b⟩
   .exact b
  .split
   .split
    .exact BN (zF _) b
    .exact b
   .split
    .split
     .refine⟨jA ?_,b⟩;have:=h.2.2;simp only[df,iq]at this⊢;omega
     .exact b
    .split
     .exact(PW hg a.s e i).bind (λ_ d=>d) λv l j d=>BN (Uv j) d
     .exact b
include hg in
theorem Ub{op:Int}{l:List bX}(h:∀a∈l,cQ a){m:MS}(b:dx m.reads)(d:∀k v,m.own k=some v->cQ v):AA cQ (Rd 1 m) (mD c op l m):=by
 unfold mD;split
 .exact Zy hg (h _ aB) b d
 .exact BN (QP (h _ aB) (h _ aB)) (Rd.refl b 1)
 .exact Rd.refl b 1
mutual
theorem tw(c:Cz)(hg:∀k,cQ (c.g k))(e:aF)(d:e.ok)(m:MS)(b:dx m.reads)(p:∀k v,m.vars k=some v->cQ v)(q:∀k v,m.own k=some v->cQ v):AA cQ (Rd e.sz m) (cG c e m):=by
 cases e with
 |mk z n s f t=>
  simp only[aF.ok]at d;unfold cG;split
  .exact⟨jA d.2.1,Rd.refl b _⟩
  .split
   .exact⟨⟨df.c2,df.z,d.2.2.1⟩,Rd.refl b _⟩
   .split
    .cases e:m.vars s with
     |some v=>exact⟨p _ _ e,Rd.refl b _⟩
     |none=>exact Rd.refl b _
    .refine(FR c hg t d.2.2.2 m b p q).bind (λu i=>i.le (by simp only[aF.sz];omega)) λl u w i=>?_
     have j:=i;obtain⟨r,rfl,x,A⟩:=i;refine(Ub (m:={m with reads:=r}) hg w x q).imp (λ_ h=>h) λy o=>Rd.le (a:=cI t+1) (j.trans o) (by simp only[aF.sz];omega)
theorem FR(c:Cz)(hg:∀k,cQ (c.g k))(l:List aF)(i:fQ l)(m:MS)(o:dx m.reads)(p:∀k v,m.vars k=some v->cQ v)(q:∀k v,m.own k=some v->cQ v):AA (λl=>∀a∈l,cQ a) (Rd (cI l) m) (dX c l m):=by
 cases l with
 |nil=>unfold dX;exact⟨λa h=>by simp at h,Rd.refl o _⟩
 |cons e r=>
  simp only[fQ]at i;unfold dX;refine(tw c hg e i.1 m o p q).bind (λs f=>f.le (by simp only[cI];omega)) λv s j f=>?_
  have d:=f;obtain⟨t,rfl,u,y⟩:=f;refine(FR c hg r i.2 {m with reads:=t} u p q).bind (λn b=>Rd.le (a:=e.sz+cI r) (d.trans b) (by simp only[cI];omega)) λl n w b=>?_
  exact⟨λa x=>(List.mem_cons.1 x).elim (λe=>e▸j) (w a),Rd.le (a:=e.sz+cI r) (d.trans b) (by simp only[cI];omega)⟩
end
end
end
section
open Go Go.Dv
structure EA(k:Kc):Prop where
 rd:k.rd.length<=1048576
 wr:k.wr.length<=1048576
 st:k.st.length<=1099511627776
 vs:∀p∈k.st,cQ p.v
def EA.g{k:Kc}(h:EA k)(a:ByteArray):cQ (k.cz.g a):=by
 show cQ (cX k.st a)
 unfold cX;split
 .rename_i p e;exact h.vs p (List.mem_of_find?_eq_some e)
 .exact DF
section
variable{L T:Heap}{nx:Nat}
def hZ.c4{b c d e:ca}(h:hZ L T nx)(a:b.below (nx+1)=true:=by rfl)(f:c.below (nx+1+1)=true:=by rfl)(g:d.below (nx+2+1)=true:=by rfl)(i:e.below (nx+3+1)=true:=by rfl):hZ ((nx+3,e)::(nx+2,d)::(nx+1,c)::(nx,b)::L) T (nx+4):=(((h.cons a).cons f).cons g).cons i
def bu.c4{H:Heap}{nx:Nat}{b c d e:ca}(h:bu H nx)(a:b.below (nx+1)=true:=by rfl)(f:c.below (nx+1+1)=true:=by rfl)(g:d.below (nx+2+1)=true:=by rfl)(i:e.below (nx+3+1)=true:=by rfl):bu ((nx+3,e)::(nx+2,d)::(nx+1,c)::(nx,b)::H) (nx+4):=(((h.cons a).cons f).cons g).cons i
def A6:∀{l:List aF} {e:aF},e∈l->e.sz<=cI l
 |x::r,e,h=>by
  simp only[cI];rcases List.mem_cons.1 h with rfl|h
  .omega
  .have:=A6 h;omega
def K8{P q:Prop}(k:q)(h:Bx q->P:=by
 intro k;refine fZ (af:=RU) rfl rfl ?_;unfold RU;dsimp only[aj,fX];exact k.q):P:=h ⟨k⟩
def DX(k:Kc)(B:EA k):∀(n:Nat) (e:aF),e.sz<=n->∀(L:Heap) (nx:Nat) (m:MS),e.ok->hZ L T nx->dx m.reads->m.reads.length+e.sz<=1099511627776->(∀k v,m.vars k=some v->cQ v)->(∀k v,m.own k=some v->cQ v)->
  CS tb 137 [.ptr 7 0,.agg [.p (.int .i64 e.op),.p (.int .i64 e.n),.p (.str e.s),.p (.slice e.f (aJ e.xs))]] (L++mb T k m) nx (cC L T k nx fX (cG k.cz e m))
 |0,e,Y=>by cases e;simp[aF.sz]at Y
 |n+1,.mk q z s f g,Y=>by
  intro L nx m he h hs hl hv ho;obtain⟨x,rfl⟩:=h.ex;have t:=h.lf k;have J:=h.lz k;simp only[aF.op,aF.n,aF.s,aF.f,aF.xs];by_cases Z:q=1
  .subst Z;have em:cG k.cz (.mk 1 z s f g) m=.ok (dt z) m:=by unfold cG;simp
   rw[em];simp only[cC];refine K8 ?_;refine gP t.q (λ{z1}=>qf z1) (k1 ?_);all_goals simp[dt]
  by_cases n2:q=2
  .subst n2;have em:cG k.cz (.mk 2 z s f g) m=.ok ⟨2,0,s⟩ m:=by unfold cG;simp
   rw[em];simp only[cC];refine K8 ?_;exact gN t.q k0
  by_cases n3:q=3
  .subst n3;cases W:m.vars s with
   |some v=>
    have em:cG k.cz (.mk 3 z s f g) m=.ok v m:=by unfold cG;simp[W]
    have C:=CU W;rw[em];simp only[cC];refine K8 ?_;exact gR (bf t.q C) trivial (λ{z}=>@bu.d3 _ _ _ (J z) λk=>aK k) k0
   |none=>
    have em:cG k.cz (.mk 3 z s f g) m=.no 2 1009 E m:=by unfold cG;simp[W,bB]
    have C:=Ap W;rw[em];simp only[cC];refine K8 ?_;exact gD (bf t.q C) trivial trivial (λ{z}=>@bu.d3 _ _ _ (J z) λk=>b8 k) k0
  have em:cG k.cz (.mk q z s f g) m=(dX k.cz g m).bind (mD k.cz q):=by rw[cG];simp[Z,n2,n3]
  rw[em];refine K8 ?_
  (try simp(disch:=omega) only[go_sem,seval,reduceCtorEq,t.q,Z,n2,n3,aD])
  have x2:fQ g:=by simp only[aF.ok]at he;exact he.2.2.2
  have x3:cI g<=n:=by simp only[aF.sz]at Y;omega
  have x4:m.reads.length+1+cI g<=1099511627776:=by simp only[aF.sz]at hl;omega
  refine bU (λj K=>∃(i:Nat) (y:List bX) (p:MS),i+j=g.length/\y.length=i/\dx p.reads/\p.reads.length+1+cI (g.drop i)<=1099511627776/\(∀k v,p.vars k=some v->cQ v)/\(∀k v,p.own k=some v->cQ v)/\(∀v∈y,cQ v)/\
    dX k.cz g m=(dX k.cz (g.drop i) p).bind (λl m=>.ok (y++l) m)/\
    K=⟨[(0,.ptr 7 0),(3,.ptr (x+12) 0),(4,.ptr (x+13) 0),(7,.ref (x+14) i 0 i),(38,.p (.slice f (aJ g))),(39,.p (.int .i64 g.length)),(40,.p (.int .i64 i))],
     (x+14,.row false 3 (bF y))::(x+13,.var false [.p (.int .i64 0),.p (.int .i64 0),.p (.str ⟨#[]⟩)])::(x+12,.var false [.p (.int .i64 q),.p (.int .i64 z),.p (.str s),.p (.slice f (aJ g))])::(L++mb T k p),x+15,[x+15,x+12]⟩) ?_ g.length _
   ⟨0,[],m,ae,rfl,hs,by simpa using x4,hv,ho,aB,by simp only[List.drop_zero];cases dX k.cz g m<;>simp[Rs.bind],rfl⟩
  rintro j K ⟨i,y,p,hi,D,F,M,G,H,o,A,rfl⟩;refine bq Jo.eq_1 ?_;rcases cK i g.length with c|c
  .have hd:g.drop i=g[i]::g.drop (i+1):=List.drop_eq_getElem_cons c;have N:g[i].ok:=pV x2 _ (List.getElem_mem c);rw[hd]at M A;simp only[cI]at M;have x5:g[i].sz<=n:=dL (A6 (List.getElem_mem c)) x3;have u:(i:Int)<g.length:=ae;have h2:(0:Int)<=i:=ae;have h3:=jh g i c;rw[aF.pM]at h3;have xe:g.length<=1099511627776:=by have:=bI g;omega
   have O:=DX k B n g[i] x5 _ _ p N (h.c4 (b:=.var false [.p (.int .i64 q),.p (.int .i64 z),.p (.str s),.p (.slice f (aJ g))]) (c:=.var false [.p (.int .i64 0),.p (.int .i64 0),.p (.str ⟨#[]⟩)]) (d:=.row false 3 (bF y)) (e:=.var false [.p (.int .i64 g[i].op),.p (.int .i64 g[i].n),.p (.str g[i].s),.p (.slice g[i].f (aJ g[i].xs))])) F ae G H;have hp:=tw k.cz B.g g[i] N p F G H;cases P:cG k.cz g[i] p with
   |no K cd Q X=>
    have ee:(dX k.cz g m).bind (mD k.cz q)=.no K cd Q X:=by rw[A,dX,P];rfl
    rw[ee];simp only[cC];exact gD (dM t.q u h2 h3 @aD) trivial trivial (ff O P) k0
   |ok v X=>
    rw[P]at hp;obtain⟨x9,xa⟩:=hp;obtain⟨r,rfl,h6,h7⟩:=xa;have c2:(i+1)*32<=ak:=by simp only[ak];omega
    have c3:i+1<=ak:=by simp only[ak];omega
    refine gR (j0 t.q u h2 h3 @aD D c2 c3 @cv @xG @Bh) trivial (bG O P) (k1 ?_);refine LI.next (m':=j-1) ae ⟨i+1,y++[v],{p with reads:=r},ae,by simp[D],h6,by simp only;omega,G,H,λw R=>?_,?_,?_⟩
    .rcases List.mem_append.1 R with R|R
     .exact o w R
     .rw[List.mem_singleton.1 R];exact x9
    .rw[A,dX,P];simp only[Rs.bind];cases dX k.cz (g.drop (i+1)) {p with reads:=r}<;>simp[Rs.bind]
    .rfl
  .have I:i=g.length:=ae;have u:¬(i:Int)<g.length:=ae;rw[List.drop_eq_nil_of_le c]at A;have ee:(dX k.cz g m).bind (mD k.cz q)=mD k.cz q y p:=by rw[A,dX];simp[Rs.bind]
   rw[ee];have xb:p.reads.length<=1099511627776:=ae;have b1:∀{c:ca},c.below (x+14+1)=true->hZ ((x+14,c)::(x+13,.var false [.p (.int .i64 0),.p (.int .i64 0),.p (.str ⟨#[]⟩)])::(x+12,.var false [.p (.int .i64 q),.p (.int .i64 z),.p (.str s),.p (.slice f (aJ g))])::L) T (x+15):=λhc=>h.c3 rfl rfl hc
   subst D
   match y,o with
   |[],o=>
    have u:¬(0:Int)<g.length:=by simp only[List.length_nil]at I;omega
    simp only[mD,bB,cC];exact gD (c9 t.q u @cv) trivial trivial (λ{z}=>@bu.d3 _ _ _ (J z) λk=>gu 1009 k) k0
   |[a],o=>
    have u:¬(1:Int)<g.length:=by simp only[List.length_cons,List.length_nil]at I;omega
    have S:bF [a]=[[.int .i64 a.k,.int .i64 a.n,.str a.s]]:=rfl;have hu:=Pf k p q a (b1 (c:=.row false 3 [[.int .i64 a.k,.int .i64 a.n,.str a.s]]) rfl) (o a aB).2.1 F xb B.rd B.st;have U:mD k.cz q [a] p=gj k.cz q a p:=rfl;rw[U];cases V:gj k.cz q a p with
    |no K cd Q X=>
     simp only[cC];exact gD (c9 t.q u S) trivial trivial (ff hu V) k0
    |ok v X=>
     simp only[cC];exact gR (c9 t.q u S) trivial (bG hu V) k0
   |[a,b],o=>
    have u:¬(2:Int)<g.length:=by simp only[List.length_cons,List.length_nil]at I;omega
    have S:bF [a,b]=[[.int .i64 a.k,.int .i64 a.n,.str a.s],[.int .i64 b.k,.int .i64 b.n,.str b.s]]:=rfl;have U:mD k.cz q [a,b] p=jd (dv q a b) p:=rfl;rw[U];cases V:dv q a b with
    |error cd=>
     simp only[jd,bB,cC];exact gD (c9 t.q u S) trivial trivial (λ{z}=>@bu.d3 _ _ _ (J z) λk=>jU (DU q a b (o a aB).2.2 (o b aB).2.2 k) V) k0
    |ok v=>
     simp only[jd,cC];exact gR (c9 t.q u S) trivial (λ{z}=>@bu.d3 _ _ _ (J z) λk=>js (DU q a b (o a aB).2.2 (o b aB).2.2 k) V) k0
   |a::b::d::r,o=>
    have h4:¬((a::b::d::r).length:Int)=1:=by simp only[List.length_cons];omega
    have h5:¬((a::b::d::r).length:Int)=2:=by simp only[List.length_cons];omega
    generalize hq:a::b::d::r=y at*;have U:mD k.cz q y p=.no 2 1009 E p:=by subst hq;rfl
    rw[U];simp only[cC];exact gD (dM t.q u h4 h5 @cv) trivial trivial (λ{z}=>@bu.d3 _ _ _ (J z) λk=>gu 1009 k) k0
end
end
section
open Go Go.Dv
structure MI(c p t:Int)(m:MS):Prop where
 rs:dx m.reads
 ps:dx m.cm
 ou:m.out.length<=16
 vs:∀k v,m.vars k=some v->cQ v
 os:∀k v,m.own k=some v->cQ v
 vo:∀v∈m.out,cQ v
 s0:0<=m.steps
 s1:m.steps<=t
 rl:(m.reads.length:Int)+c<=2097152*m.steps
 pl:(m.cm.length:Int)+p<=m.steps
 po:∀k∈m.cm,(m.own k).isSome=true
def MI.le{c p t c' p' t':Int}{m:MS}(h:MI c p t m)(a:c'<=c)(b:p'<=p)(d:t<=t'):MI c' p' t' m:=
 ⟨h.rs,h.ps,h.ou,h.vs,h.os,h.vo,h.s0,by have:=h.s1;omega,by have:=h.rl;omega,by have:=h.pl;omega,h.po⟩
def tm{b:Type}(P:b->Prop)(R S:MS->Prop):Rs b->Prop
 | .ok a m=>P a/\R m
 | .no _ _ _ m=>S m
def tm.bind{b d:Type}{P:b->Prop}{Q:d->Prop}{R S e:MS->Prop}{r:Rs b}{f:b->MS->Rs d}(h:tm P R S r)(g:∀a m,P a->R m->tm Q e S (f a m)):tm Q e S (r.bind f):=by
 cases r with
 |ok a m=>exact g a m h.1 h.2
 |no i c k m=>exact h
abbrev jC:MS->Prop:=MI 0 0 16384
abbrev vS:MS->Prop:=MI 0 0 16385
abbrev Bp{a:Type}(_:a):Prop:=True
def sk{m:MS}(h:jC m):tm Bp (MI 2097152 1 16384) vS (gW m):=by
 have a:=h.s0;have b:=h.s1;have c:=h.rl;have d:=h.pl;unfold gW;split
 .exact⟨h.rs,h.ps,h.ou,h.vs,h.os,h.vo,by simp only;omega,by simp only;omega,by simp only;omega,by simp only;omega,h.po⟩
 .exact⟨trivial,h.rs,h.ps,h.ou,h.vs,h.os,h.vo,by simp only;omega,by simp only;omega,by simp only;omega,by simp only;omega,h.po⟩
def oX{c:Cz}(i:∀k,cQ (c.g k)){e:aF}(j:e.ok)(l:e.sz<=iq){m:MS}{a p:Int}(s:1048576<=a)(n:0<=p)(h:MI a p 16384 m):tm cQ (MI (a-1048576) p 16384) vS (cG c e m):=by
 have b:=tw c i e j m h.rs h.vs h.os;have t:=h.rl;have f:∀d,Rd e.sz m d->MI (a-1048576) p 16384 d:=by
  rintro _ ⟨r,rfl,o,u⟩;refine⟨o,h.ps,h.ou,h.vs,h.os,h.vo,h.s0,h.s1,?_,h.pl,h.po⟩;simp only[iq]at l⊢;omega
 cases g:cG c e m with
 |ok v d=>rw[g]at b;exact⟨b.1,f _ b.2⟩
 |no w x q d=>rw[g]at b;exact(f _ b).le ae n ae
def wj{m:MS}{a p t:Int}(h:MI a p t m)(k:ByteArray){v:bX}(c:cQ v):MI a p t (gk k v m):=by
 refine⟨h.rs,h.ps,h.ou,λj w b=>?_,h.os,h.vo,h.s0,h.s1,h.rl,h.pl,h.po⟩;simp only[gk,l8]at b;split at b
 .cases b;exact c
 .exact h.vs _ _ b
def JW{c:Cz}{b:ByteArray}{v:bX}(g:cQ v){m:MS}{a:Int}(f:0<=a)(h:MI a 1 16384 m):tm Bp jC vS (fe c b v m):=by
 have k:=h.pl;have l:=A5 b m.cm;unfold fe;split
 .split
  .exact h.le f ae ae
  .refine⟨trivial,h.rs,ot h.ps,h.ou,h.vs,λj w d=>?_,h.vo,h.s0,h.s1,by have:=h.rl;simp only;omega,by simp only;omega,λj i=>?_⟩
   .simp only[l8]at d;split at d
    .cases d;exact g
    .exact h.os _ _ d
   .simp only[l8];split
    .rfl
    .rename_i e;exact h.po j ((gM.1 i).resolve_left e)
 .exact h.le f ae ae
def WN{v:bX}(f:cQ v){m:MS}{a p:Int}(c:0<=a)(d:0<=p)(h:MI a p 16384 m):tm Bp jC vS (nM v m):=by
 unfold nM;split
 .exact h.le c d ae
 .rename_i g;have e:=h.le (c':=0) (p':=0) (t':=16384) c d ae;refine⟨trivial,h.rs,h.ps,by have:=h.ou;simp only[List.length_append,List.length_cons,List.length_nil];omega,h.vs,h.os,λw b=>?_,h.s0,h.s1,e.rl,e.pl,h.po⟩;rcases List.mem_append.1 b with b|b
  .exact h.vo w b
  .rw[List.mem_singleton.1 b];exact f
def N2{f:Int->MS->Rs Unit}(a:∀i m,df i->jC m->tm Bp jC vS (f i m)):∀(n:Nat) (i:Int) (m:MS),-9223372036854775808<=i->i+n<=9223372036854775807+1->jC m->tm Bp jC vS (j7 f n i m)
 |0,i,m,_,_,h=>⟨trivial,h⟩
 |n+1,i,m,b,e,h=>(a i m ⟨b,ae⟩ h).bind λ_ c _ d=>N2 a n (i+1) c ae ae d
mutual
theorem Gs(c:Cz)(p:∀k,cQ (c.g k))(s:aX)(C:s.ok)(m:MS)(h:MI 2097152 1 16384 m):tm Bp jC vS (cj c s m):=by
 cases s with
 |mk L name max a b f o g u=>
  simp only[aX.ok]at C;obtain⟨_,_,D,⟨G,x⟩,⟨E,r⟩,l,t⟩:=C;have H:vS m:=h.le ae ae ae;have q:∀(Q:bX->MS->Rs Unit),(∀v j,cQ v->MI 1048576 1 16384 j->tm Bp jC vS (Q v j))->tm Bp jC vS ((cG c a m).bind Q):=λQ I=>
   (oX p G x ae ae h).bind λv j n d=>I v j n (d.le ae ae ae)
  unfold cj;split
  .refine q _ λv j n d=>⟨trivial,wj (d.le ae ae ae) name n⟩
  .split
   .refine q _ λv j n d=>(oX p E r ae ae d).bind λw y z e=>?_
    split
    .exact JW z ae e
    .exact e.le ae ae ae
   .split
    .refine q _ λv j n d=>?_
     split
     .exact JW DF ae d
     .exact d.le ae ae ae
    .split
     .refine q _ λv j n d=>?_
      split
      .split
       .exact mf c p o l j (d.le ae ae ae)
       .exact mf c p u t j (d.le ae ae ae)
      .exact d.le ae ae ae
     .split
      .refine q _ λv j n d=>(oX p E r ae ae d).bind λw y z e=>?_
       split
       .split
        .exact e.le ae ae ae
        .have F:=n.2.1;have J:=z.2.1;simp only[df]at F J;refine N2 (λi M K A=>(sk A).bind λ_ N _ B=>mf c p o l _ (wj (B.le ae ae ae) name (jA K))) _ _ _ F.1 ?_ (e.le ae ae ae);omega
       .exact e.le ae ae ae
      .split
       .refine q _ λv j n d=>?_
        split
        .exact WN n ae ae d
        .exact d.le ae ae ae
       .split
        .exact H
        .exact⟨trivial,h.le ae ae ae⟩
theorem mf(c:Cz)(b:∀k,cQ (c.g k))(l:List aX)(a:cD l)(m:MS)(h:jC m):tm Bp jC vS (bN c l m):=by
 cases l with
 |nil=>unfold bN;exact⟨trivial,h⟩
 |cons s r=>
  simp only[cD]at a;unfold bN;exact(sk h).bind λ_ d _ e=>(Gs c b s a.1 d e).bind λ_ f _ g=>mf c b r a.2 f g
end
end
end Go.Dv.Tryz
