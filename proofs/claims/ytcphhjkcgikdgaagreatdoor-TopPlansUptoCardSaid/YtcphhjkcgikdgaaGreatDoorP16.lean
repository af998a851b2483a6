/- Lemmas for the law of this claim. -/
import Derived.Scope
import Derived.Test.YtcphhjkcgikdgaaGreatDoorP14
import Derived.Test.YtcphhjkcgikdgaaGreatDoorP15
set_option linter.all false
namespace Go.Dv
section
open Go.RowKit
section
variable{P:Program}{B:Nat}{w0:World}{U0:Nat->Prop}{β:Place}{w:World}{nt:Cx}{s:St}{a:Act}{cf:aI}
def uP{b:Type}:∀(l:List (Nat×b)) (k:Nat) (v:b),ah l k=some v->(k,v)∈l
 |[],k,v,h=>by simp[ah]at h
 |(j,u)::r,k,v,h=>by
   rw[aP]at h;split at h
   .rename_i e;subst e;cases h;simp
   .exact List.mem_cons_of_mem _ (uP r k v h)
def bH.less(g:bH B w0 U0 nt β s a w){b:Heap}(l:gT s.heap b){env':Env}(c:∀k d,ah env' k=some d->ah s.env k=some d):bH B w0 U0 nt β {s with env:=env',heap:=b} a w:=
 ⟨g.mem.less l,λk d e=>by
  obtain⟨v,f,h⟩:=g.env k d (c k d e);exact⟨v,f,h.cn (l.keeps w) (l.cn (Nat.le_refl _))⟩,g.size,g.defers,g.keeps.trans (l.keeps w),g.cn.trans (l.cn (Nat.le_refl _)),g.marks⟩
def mT(c:Nat)(H:Heap):gT H (az c H):=by
 refine⟨λid aY h=>?_⟩;have b:=(mC c H id aY h).1;rw[cP c H id b]at h;exact⟨aY,h,.inl rfl⟩
def pN{H:Heap}{G c:Nat}:∀(n:Nat) (d:DV) (v:Value),below c n d=true->bj w (Own U0 β H) β H G d v->bj w (Own U0 β (az c H)) β (az c H) c d v:=by
 have I:=(mT c H).keeps (U0:=U0) (β:=β) w;intro n;induction n with
 |zero=>intro d v h;simp[below]at h
 |succ n E=>
  intro d v h J;cases J with
  |p q x K=>exact .p _ _ (K.lx I)
  |agg m o r L t=>
   simp only[below,List.all_eq_true]at h;exact .agg m o r L λj y b=>E y _ (h y (List.mem_of_getElem? b)) (t j y b)
  |tuple m o r t=>
   simp only[below,List.all_eq_true]at h;exact .tuple m o r λj y b=>E y _ (h y (List.mem_of_getElem? b)) (t j y b)
  |func f m o r t=>
   simp only[below,List.all_eq_true]at h;exact .func f m o r λj y b=>E y _ (h y (List.mem_of_getElem? b)) (t j y b)
  |kh f m o r t=>
   simp only[below,List.all_eq_true]at h;exact .kh f m o r λj y b=>E y _ (h y (List.mem_of_getElem? b)) (t j y b)
  |ref id u e k v hid C D F=>
   simp only[below,cp]at h;exact .ref id u e k v h C (λg z A l=>D g z A (by rwa [cP c H id h]at l)) (λg z A l=>F g z A (by rwa [cP c H id h]at l))
  |ptr id e v hid C D M=>
   simp only[below,cp]at h;exact .ptr id e v h C (λg m l=>D g m (by rwa [cP c H id h]at l)) (λg N l=>M g N (by rwa [cP c H id h]at l))
  |du id u i e v hid C D F=>
   simp only[below,cp]at h;exact .du id u i e v h C (λg z A l=>D g z A (by rwa [cP c H id h]at l)) (λg z A l=>F g z A (by rwa [cP c H id h]at l))
def kV(g:bH B w0 U0 nt β s a w){c:Nat}{Y:St}(R:nt.ns<=c)(h:jc c s=some Y):bH B w0 U0 nt β Y a w:=by
 unfold jc at h;simp only at h;split at h
 .rename_i u;simp only[aw]at h;subst h;simp only[aO,cp,List.all_eq_true]at u;obtain⟨⟨h1,h2⟩,h3⟩:=u;have l:=mT c s.heap;have H:=g.mem.less l;refine⟨⟨H.below,H.bsize,H.u0,⟨λid aY I=>(mC c _ _ _ I).1,λid aY I=>?_,H.h.inj⟩,H.tab⟩,λk d Z=>?_,g.size,g.defers,g.keeps.trans (l.keeps w),⟨R,λid hid C J K m=>?_,λid hid C O m=>?_,λid hid C O m=>?_,λid hid C J K m=>?_⟩,g.marks⟩
  .have hid:=(mC c _ _ _ I).1;have A:=I;rw[cP c _ id hid]at A;have o:=h2 (id,aY) (uP _ _ _ I);have L:=g.mem.h.aY id aY A;have hk:=l.keeps (U0:=U0) (β:=β) w;cases aY with
   |var f O=>
    obtain⟨b,q,z,T,r,t,D,E,F,M⟩:=L;simp only[ca.below,List.all_eq_true]at o;exact⟨b,q,z,T,r,t,D,E,F,λj d N=>pN dep d _ (o d (List.mem_of_getElem? N)) (M j d N)⟩
   |row f J K=>
    rcases L with⟨r,t⟩|⟨b,q,z,T,r,t,D,E,F,M,S,U,V,W⟩
    .exact .inl ⟨r,t⟩
    .exact .inr ⟨b,q,z,T,r,t,D,E,F,M,S,U,V,λi x j y m Q=>(W i x j y m Q).lx hk⟩
   |map f kv=>
    cases kv with
    |strs n g=>exact L
    |ints kv=>
    obtain⟨b,q,es,G,r,t,D,E,X,F⟩:=L;simp only[ca.below,List.all_eq_true]at o;refine⟨b,q,es,G,r,t,D,E,X,λj k p N=>?_⟩;obtain⟨e,a1,a2,a3,a4⟩:=F j k p N;exact⟨e,a1,a2,a3,pN dep p _ (o (k,p) (List.mem_of_getElem? N)) a4⟩
   |bh f J K=>
    simp only[ca.below,List.all_eq_true]at o;rcases L with⟨r,t⟩|⟨b,q,z,T,r,t,D,E,F,M,S,U,V,W⟩
    .exact .inl ⟨r,t⟩
    .exact .inr ⟨b,q,z,T,r,t,D,E,F,M,S,U,V,λi x j y m Q=>pN dep y _ (o x (List.mem_of_getElem? m) y (List.mem_of_getElem? Q)) (W i x j y m Q)⟩
  .obtain⟨v,r,t⟩:=g.env k d Z;exact⟨v,r,pN dep d v (h1 (k,d) (uP _ _ _ Z)) t⟩
  .rw[cP c _ id ae]at m;exact g.cn.row id hid C J K m
  .rw[cP c _ id ae]at m;exact g.cn.var id hid C O m
  .rw[cP c _ id ae]at m;exact g.cn.map id hid C O m
  .rw[cP c _ id ae]at m;exact g.cn.bh id hid C J K m
 .cases h
def Le(g:bH B w0 U0 nt β s a w){o k:Nat}(t:ah s.env k=some (.p (.slice true []))):
  ∃f,bH B w0 U0 nt f {s with env:=fi s.env k (.ref s.next 0 0 0),heap:=(s.next,.row false o [])::s.heap,next:=s.next+1} a w:=by
 obtain⟨v,u,x⟩:=g.env k _ t;have y:∃i,v=.slice i 0 0:=by
  cases x with|p _ _ z=>
   cases z with
   |none _ i c h=>exact⟨i,by rw[h rfl]⟩
   |slice _ _ b A c o C T G H q=>simp at q
 obtain⟨i,rfl⟩:=y;obtain⟨f,m,l,r,D⟩:=B5 (g.mem) o i;refine⟨f,⟨m,λj d n=>?_,g.size,g.defers,g.keeps.trans l,g.cn.trans r,g.marks⟩⟩;rw[jQ]at n;split at n
 .rename_i e;subst e;cases n;exact⟨_,u,D⟩
 .obtain⟨v,E,F⟩:=g.env j d n;exact⟨v,E,F.cn l r⟩
def yV:∀(l:List Nat) (s c:St),bH B w0 U0 nt β s a w->o0 l s=some c->bH B w0 U0 nt β c a w
 |[],s,c,g,h=>by simp only[o0,aw]at h;subst h;exact g
 |k::r,s,c,g,h=>by
  simp only[o0]at h;cases m:ah s.env k with
  |none=>rw[m]at h;cases h
  |some d=>
   rw[m]at h;simp only at h;cases n:bE s.heap dep d with
   |none=>rw[n]at h;cases h
   |some p=>
    rw[n]at h;refine yV r _ c ?_ h;obtain⟨v,q,t⟩:=g.env k d m;have l:=lr (eR s.heap dep d) s.heap;have o:=ql g.mem (eR s.heap dep d) dep d p v n (λi u=>u) t;have b:=g.less l (env':=s.env) (λ_ _ h=>h);refine⟨b.mem,λj e f=>?_,b.size,b.defers,b.keeps,b.cn,b.marks⟩;rw[jQ]at f;split at f
    .rename_i e;subst e;cases f;exact⟨v,q,o6 o⟩
    .exact b.env j e f
def HB(g:bH B w0 U0 nt β s a w){y id f:Nat}{x:List DV}(F:ah s.heap id=some (.var false x))(z:x[f]?=some (.p (.slice true []))):
  ∃l,bH B w0 U0 nt l {s with heap:=aH ((s.next,.row false y [])::s.heap) id (.var false (x.set f (.ref s.next 0 0 0))),next:=s.next+1} a w:=by
 obtain⟨b,c,q,T,I,N,J,O,Z,Q⟩:=g.mem.h.aY id _ F;have E:∃A,q.getD f undef=.slice A 0 0:=by
  have:=Q _ _ z;generalize q.getD f undef=xv at this;cases this with|p _ _ R=>
   cases R with
   |none _ A c h=>exact⟨A,by rw[h rfl]⟩
   |slice _ _ b f c y q T fz vs G=>simp at G
 obtain⟨A,E⟩:=E;obtain⟨l,m,C,H,S⟩:=B5 (g.mem) y A;have hid:=g.mem.h.lt _ _ F;have n:ah ((s.next,ca.row false y [])::s.heap) id=some (.var false x):=by rw[aP,an ae];exact F
 obtain⟨U,K,L,T',k1,k2,k3,k4,V,W⟩:=m.h.aY id _ n;obtain⟨_,_,_,D⟩:=H.var id hid false x n;rw[D,I]at k1;simp only[aw,bQ]at k1;obtain⟨rfl,rfl⟩:=k1;rw[J]at k3;simp only[aw,Obj.cells.injEq]at k3;obtain⟨rfl,rfl,_⟩:=k3;have u:pR l ((s.next,ca.row false y [])::s.heap) (s.next+1) w l (aH ((s.next,.row false y [])::s.heap) id (.var false (x.set f (.ref s.next 0 0 0)))) (s.next+1) w id (.var false (x.set f (.ref s.next 0 0 0))):=by
  refine⟨λk M=>?_,?_,rfl,λk M=>rfl,Nat.le_refl _,ae,.inr ⟨_,n,rfl,rfl⟩,λb o h=>.inl h,λU K h=>.inr ⟨K,_,h,n⟩⟩
  .rw[bn,an (λe=>M e.symm)]
  .rw[bn,aq rfl,n];rfl
 have r:=u.keeps (U0:=U0);have t:=u.cn;refine⟨l,⟨u.mem m (Below.refl _ _) ⟨b,c,q,T,by rw[D,I],N,J,by simpa using O,λj d i=>?_,λj d i=>?_⟩,λj d i=>?_,g.size,g.defers,(g.keeps.trans C).trans r,(g.cn.trans H).trans t,g.marks⟩⟩
 .rw[List.getElem?_set]at i;split at i
  .rename_i e;subst e;rw[E];rfl
  .exact V j d i
 .rw[List.getElem?_set]at i;split at i
  .rename_i e;subst e;split at i
   .simp only[aw]at i;subst i;rw[E];exact S.cn r t
   .cases i
  .exact(W j d i).cn r t
 .obtain⟨v,X,Y⟩:=g.env j d i;exact⟨v,X,(Y.cn C H).cn r t⟩
def IU(g:bH B w0 U0 nt β s a w)(n:Nat):bH B w0 U0 nt β {s with next:=s.next+n} a w:=by
 have c:ku β s.heap s.next β s.heap (s.next+n):=⟨GJ _ _,(ku.refl β s.heap s.next).row,(ku.refl β s.heap s.next).var,(ku.refl β s.heap s.next).map,(ku.refl β s.heap s.next).bh⟩;have e:dT w (Own U0 β s.heap) w (Own U0 β s.heap):=dT.refl _ _;refine⟨⟨g.mem.below,g.mem.bsize,g.mem.u0,⟨λid b h=>pb (g.mem.h.lt id b h) (GJ _ _),λid b h=>(g.mem.h.aY id b h).carry e c rfl (λ_ _ _ _ h=>h),g.mem.h.inj⟩,g.mem.tab⟩,λk d f=>?_,g.size,g.defers,g.keeps,g.cn.trans c,g.marks⟩;obtain⟨v,i,j⟩:=g.env k d f;exact⟨v,i,j.cn e c⟩
def Ej(g:bH B w0 U0 nt β s a w){y id f:Nat}{x:List DV}(F:ah s.heap id=some (.var false x))(z:x[f]?=some (.p (.slice true []))):
  ∃l,bH B w0 U0 nt l {s with heap:=aH ((s.next,.bh false y [])::s.heap) id (.var false (x.set f (.ref s.next 0 0 0))),next:=s.next+1} a w:=by
 obtain⟨b,c,q,T,I,N,J,O,Z,Q⟩:=g.mem.h.aY id _ F;have E:∃A,q.getD f undef=.slice A 0 0:=by
  have:=Q _ _ z;generalize q.getD f undef=xv at this;cases this with|p _ _ R=>
   cases R with
   |none _ A c h=>exact⟨A,by rw[h rfl]⟩
   |slice _ _ b f c y q T fz vs G=>simp at G
 obtain⟨A,E⟩:=E;obtain⟨l,m,C,H,S⟩:=Pe (g.mem) y A;have hid:=g.mem.h.lt _ _ F;have n:ah ((s.next,ca.bh false y [])::s.heap) id=some (.var false x):=by rw[aP,an ae];exact F
 obtain⟨U,K,L,T',k1,k2,k3,k4,V,W⟩:=m.h.aY id _ n;obtain⟨_,_,_,D⟩:=H.var id hid false x n;rw[D,I]at k1;simp only[aw,bQ]at k1;obtain⟨rfl,rfl⟩:=k1;rw[J]at k3;simp only[aw,Obj.cells.injEq]at k3;obtain⟨rfl,rfl,_⟩:=k3;have u:pR l ((s.next,ca.bh false y [])::s.heap) (s.next+1) w l (aH ((s.next,.bh false y [])::s.heap) id (.var false (x.set f (.ref s.next 0 0 0)))) (s.next+1) w id (.var false (x.set f (.ref s.next 0 0 0))):=by
  refine⟨λk M=>?_,?_,rfl,λk M=>rfl,Nat.le_refl _,ae,.inr ⟨_,n,rfl,rfl⟩,λb o h=>.inl h,λU K h=>.inr ⟨K,_,h,n⟩⟩
  .rw[bn,an (λe=>M e.symm)]
  .rw[bn,aq rfl,n];rfl
 have r:=u.keeps (U0:=U0);have t:=u.cn;refine⟨l,⟨u.mem m (Below.refl _ _) ⟨b,c,q,T,by rw[D,I],N,J,by simpa using O,λj d i=>?_,λj d i=>?_⟩,λj d i=>?_,g.size,g.defers,(g.keeps.trans C).trans r,(g.cn.trans H).trans t,g.marks⟩⟩
 .rw[List.getElem?_set]at i;split at i
  .rename_i e;subst e;rw[E];rfl
  .exact V j d i
 .rw[List.getElem?_set]at i;split at i
  .rename_i e;subst e;split at i
   .simp only[aw]at i;subst i;rw[E];exact S.cn r t
   .cases i
  .exact(W j d i).cn r t
 .obtain⟨v,X,Y⟩:=g.env j d i;exact⟨v,X,(Y.cn C H).cn r t⟩
def wZ(g:bH B w0 U0 nt β s a w){q:DJ}{e:St}(h:eU q s=some e):∃f,bH B w0 U0 nt f e a w:=by
 cases q with
 |forget l=>
  simp only[eU,aw]at h;subst h;exact⟨β,g.less (gT.refl _) λk d i=>gQ l _ _ _ i⟩
 |free l=>
  simp only[eU,aw]at h;subst h;exact⟨β,g.less (Iy _ _) λk d i=>gQ l _ _ _ i⟩
 |mark=>
  simp only[eU,aw]at h;subst h;refine⟨β,g.mem,g.env,g.size,g.defers,g.keeps,g.cn,λc j=>?_⟩;rcases List.mem_cons.1 j with rfl|j
  .exact g.cn.next
  .exact g.marks c j
 |reset=>
  simp only[eU]at h;split at h
  .rename_i c r m;exact⟨β,kV g (g.marks c (by rw[m];simp)) h⟩
  .cases h
 |lower=>
  simp only[eU]at h;split at h
  .rename_i c r m;exact⟨β,kV g (dL (g.marks c (by rw[m];simp)) (lZ _ _)) h⟩
  .cases h
 |pure l=>
  simp only[eU]at h;exact⟨β,yV l s e g h⟩
 |pI t k off=>
  simp only[eU]at h;split at h
  case h_2=>cases h
  rename_i id o;split at h
  case h_2=>cases h
  rename_i u p;split at h
  case h_2=>cases h
  rename_i b;simp only[aw]at h;subst h;exact HB g p b
 |HN t k off=>
  simp only[eU]at h;split at h
  case h_2=>cases h
  rename_i id o;split at h
  case h_2=>cases h
  rename_i u p;split at h
  case h_2=>cases h
  rename_i b;simp only[aw]at h;subst h;exact Ej g p b
 |bump n=>
  simp only[eU,aw]at h;subst h;exact⟨β,IU g n⟩
 |own t k=>
  simp only[eU]at h;split at h
  .rename_i o;simp only[aw]at h;subst h;exact Le g o
  .simp only[aw]at h;subst h;exact⟨β,g⟩
  .cases h
def BG(P:Program)(c:Code)(Q:Exit->Act->World->Prop)(a:Act)(w:World):Prop:=
 ∀(b:Frame) (k:List Item) (d:List Frame),∃e f g,Q e f g/\Arrives P (lone (b.at a (.code c::.inLoop c::k)) d w) b k d e f g
def J9{c:Code}{Q:Exit->Act->World->Prop}(h:BG P c Q a w):(Code.loop c).wp P Q a w:=by
 intro b k f;obtain⟨e,g,i,j,d⟩:=h b k f;exact⟨e,g,i,j,.of_steps (.one step_loop) d⟩
def TI{c:Code}{Q:Exit->Act->World->Prop}(h:c.wp P (Exit.then (BG P c Q) Q) a w):BG P c Q a w:=by
 intro b k p;obtain⟨e,i,j,q,f⟩:=h b (.inLoop c::k) p;cases e with
 |normal=>
  obtain⟨m,n,o,g,d⟩:=q b k p;exact⟨m,n,o,g,.of_steps (Steps.trans f (.one step_inLoop)) d⟩
 |exit id|goto l|ret|panic r|outgrown=>exact⟨_,i,j,q,.pass (x:=.inLoop c) rfl (λ_ _=>.inl aB) f⟩
def El{f g:St->R}{s:St}{m d:Nat}{hid:List Nat}{r:Ex×St}(h:mS f g s m d hid=some r):∃j k,ah s.env m=some (.p (.map j k))/\(∀t∈hid,ah s.env t=none)/\
  ∀l,eX k l->(match dW f d hid (l.map λe=>jR e.1 e.2) s with|some (.normal,n)=>g n|x=>x)=some r:=by
 obtain⟨c,b,_,i⟩:=ve h;unfold zJ at b;split at b
 case h_2=>cases b
 rename_i j k o;split at b
 case isFalse=>cases b
 rename_i p;cases b;exact⟨j,_,o,λt q=>by
  have:=(List.all_eq_true.1 p) t q;simpa using this,λl u=>i l u⟩
def zN{b:Bd}{c:Code}{str:Bool}{m:Nat}{hid:List Nat}{g:List ai}{x y z:aC}(h:aV P b c (.forIn str m hid g x y z)=true):
  ∃o i d p j k q r e l n dd,c=.seq (.seq (.region o i false) (.block d (.loop (.seq (.region p j false) (.seq (.cond (.tmp k) .skip (.exit d)) (.block q (.seq (.region r e false) l))))))) (.seq n dd)/\
   uO P b str m hid i.toList j.toList e.toList k=true/\b4 P {b with oQ:=hid.head?.toList++b.oQ} e (if str then e.toList else e.toList.tail) g=true/\aV P {b with oQ:=hid.head?.toList++b.oQ} l x=true/\aV P b n y=true/\aV P b dd z=true:=by
 unfold aV at h;split at h<;>first|(cases h;done)|skip
 all_goals(rename_i f;first|(cases f;done)|skip)
 cases f;simp only[aO,cw]at h;obtain⟨⟨⟨⟨⟨rfl,t⟩,u⟩,v⟩,A⟩,C⟩:=h;exact⟨_,_,_,_,_,_,_,_,_,_,_,_,rfl,t,u,v,A,C⟩
def AZ(hc:bS P cf)(N:P.follows .mixedOrders=true)(n:Nat):∀(ac:aC) (c:Code) (O:Bd),aV P O c ac=true->uF B U0 O (aN cf n ac) (λQ a w=>c.wp P Q a w):=by
 intro ac;induction ac with
 |ghost gh x ih=>
  intro c O i w0 nt C β s a w e H g f Q j;subst C;have xa:aV P nt.bd c x=true:=by cases c<;>simpa[aV]using i
  simp only[aN]at f;cases hg:eU gh s with
  |none=>rw[hg]at f;cases f
  |some I=>
   rw[hg]at f;obtain⟨xc,g1⟩:=wZ g hg;exact ih c _ xa w0 nt rfl xc I a w e H g1 f Q j
 |after x l ih=>
  intro c O i w0 nt C β s a w e H g f Q j;subst C;have xa:aV P nt.bd c x=true:=by cases c<;>simpa[aV]using i
  simp only[aN]at f;cases S:aN cf n x s with
  |none=>rw[S]at f;cases f
  |some r=>
   obtain⟨R,I⟩:=r;rw[S]at f;refine ih c _ xa w0 nt rfl β s a w R I g S Q λL M p ex A u=>?_
   cases R with
   |normal=>
    simp only at f;cases hg:eU (.free l) I with
    |none=>rw[hg]at f;cases f
    |some s2=>
     rw[hg]at f;simp only[aw,bQ]at f;obtain⟨rfl,rfl⟩:=f;obtain⟨xc,g1⟩:=wZ A hg;cases u;exact j _ _ xc _ g1 rfl
   |exit id|ret|panic q=>simp only[aw,bQ]at f;obtain⟨rfl,rfl⟩:=f;exact j _ _ _ _ A u
 |native k fs z=>
  intro c O i w0 nt C β s a w e H g f Q j;simp only[aN]at f;cases f
 |aT xj E=>
  intro c O i w0 nt C β s a w e H g f Q j;subst C;simp only[aN]at f;cases D:ox cf E s with
  |none=>rw[D]at f;cases f
  |some I=>
   rw[D]at f;simp only[aw,bQ]at f;obtain⟨rfl,rfl⟩:=f;obtain⟨R,h1,h2⟩:=AS E s I s.env (λ_ _ h=>h) D;cases c with
   |region id os J=>
    simp only[aV,aO,cw]at i;obtain⟨⟨rfl,F⟩,K⟩:=i;exact qw hc N F K g h1 λL M p A=>j _ _ p _ (A.less (gT.refl _) λk d f=>h2 k d f) rfl
   |_=>simp[aV]at i
 |aS E=>
  intro c O i w0 nt C β s a w e H g f Q j;subst C;simp only[aN]at f;cases c with
  |region id os J=>
   simp only[aV,aO,jW]at i;obtain⟨rfl,F⟩:=i;exact CZ hc F g f j
  |_=>simp[aV]at i
 |j2 pre xk post kill=>
  intro c O i w0 nt C β s a w e H g f Q j;subst C;simp only[aN]at f;cases D:lQ cf pre xk post s with
  |none=>rw[D]at f;cases f
  |some q=>
   obtain⟨R,I⟩:=q;rw[D]at f;simp only[aw,bQ]at f;obtain⟨rfl,rfl⟩:=f;cases c with
   |region id os J=>
    simp only[aV,aO,cp]at i;obtain⟨⟨⟨⟨⟨⟨rfl,F⟩,K⟩,x1⟩,yb⟩,xx⟩,xy⟩:=i;exact C2 hc N F K x1 xx xy g D λL M p ex A S=>j L M p ex (A.less (gT.refl _) λk d f=>gQ kill _ _ _ f) S
   |_=>simp[aV]at i
 |panic ds x=>
  intro c O i w0 nt C β s a w e H g f Q j;subst C;simp only[aN]at f;cases D:bR cf ds s with
  |none=>rw[D]at f;cases f
  |some I=>
   rw[D]at f;simp only at f;split at f
   .rename_i t v hv;simp only[aw,bQ]at f;obtain⟨rfl,rfl⟩:=f;cases c with
    |region id os J=>
     simp only[aV,aO,jW]at i;obtain⟨⟨rfl,F⟩,K⟩:=i;exact Gq hc F K g D hv j
    |_=>simp[aV]at i
   .cases f
 |forIn str m hid E x y z V W xm=>
  intro c O i w0 nt C β s a w e H g f Q j;subst C;obtain⟨i1,r1,yd,i2,r2,cc,nx,i3,r3,bc,bb,dd,rfl,hF,F,K,x1,xn⟩:=zN i;obtain⟨o1,o2,o3,o4,k1,it,n1,Z,mt,D,xf⟩:=Dd hF;have Eh:=xf.eh;subst Eh;simp only[List.head?_cons,Option.toList,List.singleton_append]at F K;simp only[aN]at f;cases str with
  |true=>
   simp only[bZ]at F;simp only at f;split at f
   case h_2=>cases f
   rename_i b C;split at f
   case isFalse=>cases f
   rename_i hn;have y1:∀t∈it::Z::D,ah s.env t=none:=λt ht=>by
    have:=(List.all_eq_true.1 hn) t ht;simpa using this
   have U:uF B U0 {nt.bd with oQ:=it::nt.bd.oQ} (eO cf E (aN cf n x)) (λQ a w=>(Code.seq (.region i3 r3 false) bc).wp P Q a w):=by
    intro w0 xg xh β s a w e H g f Q j;rw[<-xh]at F K;cases D:bR cf E s with
    |none=>simp only[eO,D]at f;cases f
    |some s2=>
     simp only[eO,D]at f;refine wp_seq (qw hc N F rfl g D λL M p A=>?_);exact V bc _ K w0 xg rfl p s2 L M e H A f Q j
   cases hl:dW (eO cf E (aN cf n x)) Z (it::Z::D) ((runesFrom b (b.size+1) 0).map lR) s with
   |none=>rw[hl]at f;cases f
   |some q=>
   obtain⟨R,I⟩:=q;rw[hl]at f;refine wp_seq (QN xf U g C y1 hl λL M p ex A u=>?_);cases R with
   |normal=>
    cases u;simp only at f;cases hy:aN cf n y I with
    |none=>rw[hy]at f;cases f
    |some q2=>
    obtain⟨e2,s2⟩:=q2;rw[hy]at f;refine wp_seq (W bb _ x1 w0 nt rfl p I L M e2 s2 A hy _ λa2 w2 T X g2 G=>?_);cases e2 with
    |normal=>cases G;exact xm dd _ xn w0 nt rfl T s2 a2 w2 e H g2 f Q j
    |exit id|ret=>simp only[aw,bQ]at f;obtain⟨rfl,rfl⟩:=f;cases G;exact j _ _ _ _ g2 rfl
    |panic q=>simp only[aw,bQ]at f;obtain⟨rfl,rfl⟩:=f;obtain⟨z,rfl,Y⟩:=G;exact j _ _ _ _ g2 ⟨z,rfl,Y⟩
   |exit id|ret=>simp only[aw,bQ]at f;obtain⟨rfl,rfl⟩:=f;cases u;exact j _ _ _ _ A rfl
   |panic q=>simp only[aw,bQ]at f;obtain⟨rfl,rfl⟩:=f;obtain⟨z,rfl,Y⟩:=u;exact j _ _ _ _ A ⟨z,rfl,Y⟩
  |false=>
   simp only[Bool.false_eq_true,cy]at F;simp only at f;have U:uF B U0 {nt.bd with oQ:=it::nt.bd.oQ} (eO cf E (aN cf n x)) (λQ a w=>wpList P r3 (Exit.then (bc.wp P Q) Q) r3.toList.tail a w):=by
    intro w0 xg xh β s a w e H g f Q j;rw[<-xh]at F K;cases D:bR cf E s with
    |none=>simp only[eO,D]at f;cases f
    |some s2=>
     simp only[eO,D]at f;refine tD hc _ _ F s a w β s2 g D λL M p A=>?_
     exact V bc _ K w0 xg rfl p s2 L M e H A f Q j
   cases hp:mS (eO cf E (aN cf n x)) (aN cf n y) s m Z (it::Z::D)with
   |none=>rw[hp]at f;cases f
   |some q=>
   obtain⟨R,I⟩:=q;rw[hp]at f;obtain⟨nn,fm,C,hn,xq⟩:=El hp;have xr:∀a2 w2 T X,bH B w0 U0 nt T I a2 w2->tL w2 (Own U0 T I.heap) R X->Exit.then (dd.wp P Q) Q X a2 w2:=by
    intro a2 w2 T X g2 G;cases R with
    |normal=>cases G;exact xm dd _ xn w0 nt rfl T I a2 w2 e H g2 f Q j
    |exit id|ret=>simp only[aw,bQ]at f;obtain⟨rfl,rfl⟩:=f;cases G;exact j _ _ _ _ g2 rfl
    |panic q=>simp only[aw,bQ]at f;obtain⟨rfl,rfl⟩:=f;obtain⟨z,rfl,Y⟩:=G;exact j _ _ _ _ g2 ⟨z,rfl,Y⟩
   refine wp_seq (Rc (g0:=aN cf n y) xf U g C hn xq (λL M p ex y4 A u=>?_) (λL M p sx A hy=>?_))
   .have:=xr L M p ex A u;cases R with
    |normal=>exact absurd rfl y4
    |exit id|ret=>cases u;exact this
    |panic q=>obtain⟨z,rfl,Y⟩:=u;exact this
   .exact wp_seq (W bb _ x1 w0 nt rfl p sx L M R I A hy _ λa2 w2 T X g2 G=>xr a2 w2 T X g2 G)
 |skip=>
  intro c O i w0 nt C β s a w e H g f Q j;simp only[aN,aw,bQ]at f;obtain⟨rfl,rfl⟩:=f;cases c<;>first|(simp[aV]at i;done)|exact wp_skip (j _ _ _ _ g rfl)|exact wp_label (j _ _ _ _ g rfl)
 |ret=>
  intro c O i w0 nt C β s a w e H g f Q j;simp only[aN,aw,bQ]at f;obtain⟨rfl,rfl⟩:=f;cases c<;>first|(simp[aV]at i;done)|exact wp_ret (j _ _ _ _ g rfl)
 |exit id=>
  intro c O i w0 nt C β s a w e H g f Q j;simp only[aN,aw,bQ]at f;obtain⟨rfl,rfl⟩:=f;cases c with
  |exit xs=>
   simp only[aV,cw]at i;subst i;exact wp_exit (j _ _ _ _ g rfl)
  |_=>simp[aV]at i
 |region xj E kill=>
  intro c O i w0 nt C β s a w e H g f Q j;subst C;simp only[aN]at f;cases D:bR cf E s with
  |none=>rw[D]at f;cases f
  |some I=>
   rw[D]at f;simp only[aw,bQ]at f;obtain⟨rfl,rfl⟩:=f;cases c with
   |region id os J=>
    simp only[aV,aO,cw]at i;obtain⟨⟨rfl,h1⟩,h2⟩:=i;exact qw hc N h1 h2 g D λL M p A=>j _ _ p _ (A.less (gT.refl _) λk d f=>gQ kill _ _ _ f) rfl
   |_=>simp[aV]at i
 |iI x7 E kill=>
  intro c O i w0 nt C β s a w e H g f Q j;subst C;simp only[aN]at f;cases D:bR cf E s with
  |none=>rw[D]at f;cases f
  |some I=>
   rw[D]at f;simp only at f;split at f
   .rename_i hq;simp only[aw,bQ]at f;obtain⟨rfl,rfl⟩:=f;cases c with
    |region id os J=>
     simp only[aV,aO]at i;obtain⟨⟨rfl,h1⟩,h2⟩:=i;exact Cp hc N h1 h2 g D hq λL M p A=>j _ _ p _ (A.less (gT.refl _) λk d f=>gQ kill _ _ _ f) rfl
    |_=>simp[aV]at i
   .cases f
 |ob x7 rk xt E ks kill=>
  intro c O i w0 nt C β s a w e H g f Q j;subst C;simp only[aN]at f;cases D:vp cf E x7 ks xt s with
  |none=>rw[D]at f;cases f
  |some I=>
   rw[D]at f;simp only[aw,bQ]at f;obtain⟨rfl,rfl⟩:=f;cases c with
   |region id os J=>
    simp only[aV,aO]at i;obtain⟨⟨⟨rfl,h1⟩,h2⟩,h3⟩:=i;exact C5 hc N h1 h2 h3 g D λL M p A=>j _ _ p _ (A.less (gT.refl _) λk d f=>gQ kill _ _ _ f) rfl
   |_=>simp[aV]at i
 |seq x y V W=>
  intro c O i w0 nt C β s a w e H g f Q j;subst C;cases c with
  |seq x' y'=>
   simp only[aV,aO]at i;simp only[aN]at f;cases S:aN cf n x s with
   |none=>rw[S]at f;cases f
   |some r=>
    obtain⟨R,I⟩:=r;rw[S]at f;refine wp_seq (V x' _ i.1 w0 nt rfl β s a w R I g S _ λL M p ex A u=>?_);cases R with
    |normal=>cases u;exact W y' _ i.2 w0 nt rfl p I L M e H A f Q j
    |exit id|ret=>simp only[aw,bQ]at f;obtain⟨rfl,rfl⟩:=f;cases u;exact j _ _ _ _ A rfl
    |panic q=>simp only[aw,bQ]at f;obtain⟨rfl,rfl⟩:=f;obtain⟨z,rfl,Y⟩:=u;exact j _ _ _ _ A ⟨z,rfl,Y⟩
  |_=>simp[aV]at i
 |cond o x y V W=>
  intro c O i w0 nt C β s a w e H g f Q j;subst C;cases c with
  |cond o' x' y'=>
   simp only[aV,aO]at i;simp only[aN]at f;split at f
   .rename_i hv;exact wp_cond_true ((g.ev i.1.1 hv).ld) (V x' _ i.1.2 w0 nt rfl β s a w e H g f Q j)
   .rename_i hv;exact wp_cond_false ((g.ev i.1.1 hv).ld) (W y' _ i.2 w0 nt rfl β s a w e H g f Q j)
   .cases f
  |_=>simp[aV]at i
 |block id x ih=>
  intro c O i w0 nt C β s a w e H g f Q j;subst C;cases c with
  |block xs x'=>
   simp only[aV,aO,cw]at i;obtain⟨rfl,i⟩:=i;simp only[aN]at f;cases S:aN cf n x s with
   |none=>rw[S]at f;cases f
   |some r=>
    obtain⟨R,I⟩:=r;rw[S]at f;refine wp_block (ih x' _ i w0 nt rfl β s a w R I g S _ λL M p ex A u=>?_);cases R with
    |normal|ret=>simp only[aw,bQ]at f;obtain⟨rfl,rfl⟩:=f;cases u;exact j _ _ _ _ A rfl
    |panic q=>simp only[aw,bQ]at f;obtain⟨rfl,rfl⟩:=f;obtain⟨z,rfl,Y⟩:=u;exact j _ _ _ _ A ⟨z,rfl,Y⟩
    |exit k=>
     cases u;simp only at f;by_cases hk:k=xs
     .rw[aq hk]at f;simp only[aw,bQ]at f;obtain⟨rfl,rfl⟩:=f;simp only[Exit.inBlock,aq hk];exact j _ _ _ _ A rfl
     .rw[an hk]at f;simp only[aw,bQ]at f;obtain⟨rfl,rfl⟩:=f;simp only[Exit.inBlock,an hk];exact j _ _ _ _ A rfl
  |_=>simp[aV]at i
 |loop x ih=>
  intro c O i w0 nt C β s a w e H g f Q j;subst C;cases c with
  |loop x'=>
   simp only[aV]at i;simp only[aN]at f;refine J9 ?_;have y6:∀(k:Nat) (β:Place) (s:St) (a:Act) (w:World),bH B w0 U0 nt β s a w->ky (aN cf n x) k s=some (e,H)->BG P x' Q a w:=by
    intro k;induction k with
    |zero=>intro β s a w g f;simp[ky]at f
    |succ k y7=>
     intro β s a w g f;simp only[ky]at f;cases S:aN cf n x s with
     |none=>rw[S]at f;cases f
     |some r=>
      obtain⟨R,I⟩:=r;rw[S]at f;refine TI (ih x' _ i w0 nt rfl β s a w R I g S _ λL M p ex A u=>?_);cases R with
      |normal=>cases u;exact y7 p I L M A f
      |exit id|ret=>simp only[aw,bQ]at f;obtain⟨rfl,rfl⟩:=f;cases u;exact j _ _ _ _ A rfl
      |panic q=>simp only[aw,bQ]at f;obtain⟨rfl,rfl⟩:=f;obtain⟨z,rfl,Y⟩:=u;exact j _ _ _ _ A ⟨z,rfl,Y⟩
   exact y6 n β s a w g f
  |_=>simp[aV]at i
def vR:∀(args:List DV) (k i:Nat) (d:DV),ah (aj k args) i=some d->k<=i/\args[i-k]?=some d
 |[],k,i,d,h=>by simp[aj,ah]at h
 |v::r,k,i,d,h=>by
  simp only[aj]at h;rw[aP]at h;split at h
  .rename_i e;subst e;cases h;exact⟨Nat.le_refl _,aB⟩
  .obtain⟨c,b⟩:=vR r (k+1) i d h;refine⟨ae,?_⟩;rw[show i-k=(i-(k+1))+1 from ae,List.getElem?_cons_succ];exact b
def tQ(g:bH B w0 U0 nt β s a w):∀(I:List ResultVar) (i:List gm) (l:List DV),eZ P I i=true->cl (sN s) i=some l->
  ∃A:List Value,((I.mapM fun
   | .tmp t=>pure (a.tmps.getD t undef)
   | .cell x t=>do loadVar t (<-asAddr (a.tmps.getD x undef)):Sem (List Value))).run P w=.ok A w/\A.length=l.length/\∀(j:Nat) (d:DV),l[j]?=some d->bj w (Own U0 β s.heap) β s.heap s.next d (A.getD j undef)
 |[],[],l,_,h=>by simp only[cl,aw]at h;subst h;exact⟨[],rfl,rfl,aB⟩
 | .tmp t::I,.tmp t'::i,l,k,h=>by
  simp only[eZ,aO,cw]at k;obtain⟨rfl,k⟩:=k;simp only[cl,sN]at h;cases J:ah s.env t with
  |none=>rw[J]at h;cases h
  |some d=>
   rw[J]at h;simp only at h;cases C:cl (sN s) i with
   |none=>rw[C]at h;cases h
   |some r=>
    rw[C]at h;simp only[aw]at h;subst h;obtain⟨A,M,N,O⟩:=tQ g I i r k C;obtain⟨v,D,u⟩:=g.env _ _ J;have E:a.tmps.getD t undef=v:=tT D;refine⟨v::A,?_,by simp[N],λj Q m=>?_⟩
    .rw[List.mapM_cons];simp only[Sem.run_bind,Sem.run_pure,Result.andThen_ok,E];rw[M];rfl
    .cases j with
     |zero=>simp only[List.getElem?_cons_zero,aw]at m;subst m;simpa using u
     |succ j=>simp only[List.getElem?_cons_succ]at m;simpa using O j Q m
 | .cell t X::I,.cell t' n::i,l,k,h=>by
  simp only[eZ,aO,cw,cp]at k;obtain⟨⟨⟨⟨rfl,K⟩,R⟩,Y⟩,k⟩:=k;simp only[cl]at h;cases c:sN s (.cell t n)with
  |none=>rw[c]at h;cases h
  |some d=>
   rw[c]at h;simp only at h;cases C:cl (sN s) i with
   |none=>rw[C]at h;cases h
   |some r=>
    rw[C]at h;simp only[aw]at h;subst h;obtain⟨A,M,N,O⟩:=tQ g I i r k C;have ht:iN P X=some true:=by split at K<;>first|assumption|cases K
    simp only[sN]at c;split at c
    .rename_i id F J;split at c
     .rename_i f S Z;cases U:dR S F n with
      |none=>rw[U]at c;cases c
      |some l0=>
       rw[U]at c;cases c;rcases kC U with⟨rfl,z⟩|⟨h0,_⟩
       .obtain⟨v,D,u⟩:=g.env _ _ J;have E:a.tmps.getD t undef=v:=tT D;obtain⟨G,H,V,L⟩:=ry (P:=P) (rE g.mem Z u (n:=n) z) ht R;have p:∀(j:Nat) (y:DV),((S.drop F).take n)[j]?=some y->j<n/\S[F+j]?=some y:=by
         intro j y q;rw[List.getElem?_take]at q;split at q
         .rename_i m;rw[List.getElem?_drop]at q;exact⟨m,q⟩
         .cases q
        have W:(do loadVar X (<-asAddr (a.tmps.getD t undef)):Sem Value).run P w=.ok (.agg G) w:=by
         obtain⟨b,o,x0,T,fz,e,_⟩:=rE g.mem Z u (n:=n) z;rw[E,e];rw[e]at H;simp only[Instr.loadAt,Instr.sureAddr,Sem.run_bind,Sem.run_pure,Result.andThen_ok]at H;simp only[asAddr,Sem.run_bind,Sem.run_pure,Result.andThen_ok];exact H
        refine⟨.agg G::A,?_,by simp[N],λj Q m=>?_⟩
        .rw[List.mapM_cons];rw[Sem.run_bind,W];simp only[Result.andThen_ok,Sem.run_bind];rw[M];rfl
        .cases j with
         |zero=>
          simp only[List.getElem?_cons_zero,aw]at m;subst m;simp only[List.getD_cons_zero];exact .agg _ G (by rw[V];simp;omega) (λj y q=>(L j (p j y q).1).1) (λj y q=>(L j (p j y q).1).2 _ (p j y q).2)
         |succ j=>simp only[List.getElem?_cons_succ]at m;simpa using O j Q m
       .omega
     .cases c
    .cases c
 | .tmp _::_,.cell _ _::_,_,k,_=>by simp[eZ]at k
 | .cell _ _::_,.tmp _::_,_,k,_=>by simp[eZ]at k
 |[],_::_,_,k,_=>by simp[eZ]at k
 |_::_,[],_,k,_=>by cases‹ResultVar›<;>simp[eZ]at k
def G4(g:bH B w0 U0 nt β s a w){f:Func}{b:List gm}(o:eZ P f.results.toList b=true){d:DV}(h:fy s b=some d):
  ∃v,(results f a.tmps).run P w=.ok v w/\bj w (Own U0 β s.heap) β s.heap s.next d v:=by
 unfold fy at h;cases i:cl (sN s) b with
 |none=>rw[i]at h;cases h
 |some l=>
  rw[i]at h;obtain⟨c,p,e,n⟩:=tQ g _ _ _ o i;have t:(results f a.tmps).run P w=.ok (if h:c.toArray.size=1 then c.toArray[0]else .tuple c.toArray) w:=by
   unfold results;rw[Sem.run_bind,Ut,Sem.run_map];exact Di (λz:Result (List Value)=>(z.andThen λa k=>Result.ok a.toArray k).andThen λa k=>(Sem.run P (pure (if h:a.size=1 then a[0]else Value.tuple a):Sem Value) k)) p
  refine⟨_,t,?_⟩;cases l with
  |nil=>
   simp only[aw]at h;subst h;have:c=[]:=List.eq_nil_of_length_eq_zero (by simpa using e);subst this;simp only[List.size_toArray,List.length_nil,Nat.zero_ne_one,dite_false];exact .tuple [] _ rfl aB
  |cons x r=>
   cases r with
   |nil=>
    simp only[aw]at h;subst h;cases c with
    |nil=>simp at e
    |cons v q=>
     have:q=[]:=List.eq_nil_of_length_eq_zero (by simpa using e);subst this;simpa using n 0 x rfl
   |cons y r=>
    simp only[aw]at h;subst h;have m:¬c.toArray.size=1:=by simp[e]
    rw[dif_neg m];exact .tuple _ _ (by simpa using e) (λj d u=>by have:=n j d u;rw[List.getD_eq_getElem?_getD]at this;rw[dA,List.getElem?_toArray];exact this)
def Es{b:Bd}{c:Code}{ac:aC}(h:aV P b c ac=true):gU ac=none:=by
 cases ac with
 |native k d z=>cases c<;>simp[aV]at h
 |_=>rfl
def qe(Y:bS P cf)(E:P.follows .mixedOrders=true){f:FuncId}{l:au}(o:fP P f l=true){n:Nat}{args:List DV}{H:Heap}{h:Nat}{r:DV}{Q:Heap}{p:Nat}(b:jH cf n l args H h=some (r,Q,p)):iJ P f args H h r Q p:=by
 unfold fP at o;cases t:P.funcs[f]? with
 |none=>rw[t]at o;cases o
 |some fn=>
 rw[t]at o;simp only at o;cases R:fn.body with
 |none=>rw[R]at o;cases o
 |some c=>
 rw[R]at o;simp only[aO,G5,ne_eq,cw,cp]at o;obtain⟨⟨⟨⟨z,Z⟩,x0⟩,F⟩,i⟩:=o;have G:=Es i;refine⟨⟨fn,t,by simpa using z,by rw[R];rfl⟩,?_⟩
 intro B w0 U0 β w A m x1 I;unfold jH at b;rw[G]at b;simp only at b;split at b
 .rename_i W;cases S:aN cf n l.body {env:=aj 0 args,heap:=H,next:=h,marks:=[h]}with
  |none=>rw[S]at b;cases b
  |some q=>
  obtain⟨e,y⟩:=q;rw[S]at b;have J:(e=.normal\/e=.ret)/\∃v,fy y l.results=some v/\pz l.rs h v y=some (r,Q,p):=by
   cases e with
   |exit id|panic q=>cases b
   |normal=>
    simp only at b;cases K:fy y l.results with
    |none=>rw[K]at b;cases b
    |some v=>rw[K]at b;exact⟨.inl rfl,_,rfl,b⟩
   |ret=>
    simp only at b;cases K:fy y l.results with
    |none=>rw[K]at b;cases b
    |some v=>rw[K]at b;exact⟨.inr rfl,_,rfl,b⟩
  obtain⟨he,v,hv,g⟩:=J;have g0:bH B w0 U0 ⟨l.ntmps,w,β,H,h,[],λ_=>undef⟩ β {env:=aj 0 args,heap:=H,next:=h,marks:=[h]} {tmps:=A++Array.replicate (fn.ntmps-A.size) undef,defers:=[]} w:=by
   refine⟨m,λk d hk=>?_,?_,⟨rfl,aB⟩,dT.refl _ _,ku.refl _ _ _,aB⟩
   .obtain⟨_,C⟩:=vR args 0 k d hk;rw[qD]at C;have X:=aL C;refine⟨A.getD k undef,?_,I k d C⟩
    show(A++Array.replicate (fn.ntmps-A.size) undef)[k]?=_
    rw[Aa,aq ae];exact iC ae
   .show(A++Array.replicate (fn.ntmps-A.size) undef).size=l.ntmps
    simp;omega
  refine calls_of_wp t R (AZ Y E n l.body c _ i w0 _ rfl β _ _ w e y g0 S _ λa' T L ex D M=>?_);obtain⟨x,N,O⟩:=G4 D F hv;have j:bodyPost P fn (λe T=>∃x,e=.returned x/\Good B w0 U0 H h β w r Q p x T) .ret a' T:=by
   unfold pz at g;split at g
   .split at g
    .rename_i u;cases g;simp only[aO]at u;have g1:=D.less (gT.refl _) (env':=[]) (λk d b=>by simp[ah]at b);have U:jc h {y with env:=[]}=some {y with env:=[],heap:=az h y.heap,next:=h}:=by
      unfold jc;simp only[List.all_nil,Bool.true_and];rw[aq (by simp only[aO];exact⟨u.1.2,u.2⟩)]
     have V:=kV g1 (Nat.le_refl _) U;exact⟨D.defers.1,x,N,x,rfl,L,V.mem,V.keeps,V.cn,pN dep r x u.1.1 O⟩
    .cases g
   .cases g;exact⟨D.defers.1,x,N,x,rfl,L,D.mem,D.keeps,D.cn,O⟩
  rcases he with rfl|rfl
  .cases M;exact j
  .cases M;exact j
 .cases b
def Mi(O:bS P cf)(u:P.follows .mixedOrders=true){f:FuncId}{t:au}(h:fP P f t=true){n:Nat}{args:List DV}{H:Heap}{g:Nat}{r:PV}{J:Heap}(b:ss cf n t args H g=some (r,J)):NO P f args H g r J:=by
 unfold fP at h;cases i:P.funcs[f]? with
 |none=>rw[i]at h;cases h
 |some fn=>
 rw[i]at h;simp only at h;cases A:fn.body with
 |none=>rw[A]at h;cases h
 |some c=>
 rw[A]at h;simp only[aO,G5,ne_eq,cw,cp]at h;obtain⟨⟨⟨⟨j,Q⟩,R⟩,K⟩,l⟩:=h;refine⟨⟨fn,i,by simpa using j,by rw[A];rfl⟩,?_⟩
 intro B w0 U0 β w o m S x;unfold ss at b;split at b
 case isFalse=>cases b
 rename_i L;cases C:aN cf n t.body {env:=aj 0 args,heap:=H,next:=g,marks:=[g]}with
 |none=>rw[C]at b;cases b
 |some q=>
 obtain⟨e,y⟩:=q;rw[C]at b;cases e with
 |normal|exit id|ret=>cases b
 |panic v=>
 simp only at b;split at b
 case isFalse=>cases b
 rename_i D;simp only[aw,bQ]at b;obtain⟨rfl,rfl⟩:=b;have T:bH B w0 U0 ⟨t.ntmps,w,β,H,g,[],λ_=>undef⟩ β {env:=aj 0 args,heap:=H,next:=g,marks:=[g]} {tmps:=o++Array.replicate (fn.ntmps-o.size) undef,defers:=[]} w:=by
  refine⟨m,λk d U=>?_,?_,⟨rfl,aB⟩,dT.refl _ _,ku.refl _ _ _,aB⟩
  .obtain⟨_,p⟩:=vR args 0 k d U;rw[qD]at p;have M:=aL p;refine⟨o.getD k undef,?_,x k d p⟩
   show(o++Array.replicate (fn.ntmps-o.size) undef)[k]?=_
   rw[Aa,aq ae];exact iC ae
  .show(o++Array.replicate (fn.ntmps-o.size) undef).size=t.ntmps
   simp;omega
 refine calls_of_wp i A (AZ O u n t.body c _ l w0 _ rfl β _ _ w _ y T C _ λY V E Z N F=>?_);obtain⟨z,rfl,W⟩:=F;have X:=N.less (gT.refl _) (env':=[]) (λk d b=>by simp[ah]at b);have G:jc g {y with env:=[]}=some {y with env:=[],heap:=az g y.heap,next:=g}:=by
  unfold jc;simp only[List.all_nil,Bool.true_and];rw[aq D]
 have I:=kV X (Nat.le_refl _) G;refine⟨N.defers.1,z,rfl,E,I.mem,I.keeps,I.cn,.p _ _ (W.lx ((mT g y.heap).keeps V))⟩
def iJ.pure{f:FuncId}{args:List PV}{v:DV}{h:Heap}{k:Nat}(A:iJ P f (args.map aQ) [] 0 v h k){r:PV}(C:bE h dep v=some r):sn P f args r:=by
 obtain⟨n,D⟩:=A;refine⟨n,λU w E F G u q=>?_⟩;have m:Mem w.heap.size w U (λ_=>none) [] 0 w:=⟨Below.refl _ _,Nat.le_refl _,F,⟨λid b h=>by simp[ah]at h,λid b h=>by simp[ah]at h,λid b H N _ _ _ h=>by simp[ah]at h⟩,G⟩;refine(D w.heap.size w U (λ_=>none) w E m (by simpa using u) λj d l=>?_).mono ?_
 .rw[List.getElem?_map]at l;cases g:args[j]? with
  |none=>rw[g]at l;cases l
  |some p=>
   rw[g]at l;simp only[Option.map_some,aw]at l;subst l;refine o6 ((q j p g).lx ?_);refine⟨λ_ _ _ _ h=>h,λb o _ y _ t=>?_⟩;rcases t with t|⟨id,aY,c,I,_⟩
   .exact y t
   .simp[ah]at I
 .rintro e O ⟨x,rfl,J,z,Q,R,K⟩;refine⟨x,rfl,?_,z.below⟩;have L:=ql z (eR h dep v) dep v r x C (λi M=>M) K;exact L.lx ⟨λ_ _ _ _ h=>h,λb o _ y _ t=>y (.inl t)⟩
def zA(P:Program)(f:FuncId)(c:aI->List DV->Heap->Nat->Option (DV×Heap×Nat)):Prop:=
 ∀(cf:aI),bS P cf->∀args H d r e b,c cf args H d=some (r,e,b)->iJ P f args H d r e b
def sy(P:Program)(f:FuncId)(b:au):Prop:=fP P f b=true\/∃k c z,b.body=.native k c z/\zA P f (kZ k c z)
def Fz(g:bS P cf)(b:P.follows .mixedOrders=true){f:FuncId}{h:au}(e:sy P f h){n:Nat}{args:List DV}{H:Heap}{i:Nat}{r:DV}{j:Heap}{c:Nat}(d:jH cf n h args H i=some (r,j,c)):iJ P f args H i r j c:=by
 rcases e with e|⟨k,o,z,l,m⟩
 .exact qe g b e d
 .unfold jH at d;rw[l]at d;exact m cf g _ _ _ _ _ _ d
def CQ(c:P.follows .mixedOrders=true){A:FuncId->Option au}(l:∀f d,A f=some d->sy P f d){X:aI}(g:bS P X):∀n,bS P (dG A X n)
 |0=>by
  constructor
  .intro f args r h;simp only[dG]at h;cases b:A f with
   |none=>rw[b]at h;exact g.pure f args r h
   |some d=>rw[b]at h;cases h
  .intro f args H i r j e h;simp only[dG]at h;cases b:A f with
   |none=>rw[b]at h;exact g.de f args H i r j e h
   |some d=>rw[b]at h;cases h
  .intro f args H i r j h;simp only[dG]at h;cases h
 |n+1=>by
  have m:=CQ c l g n;constructor
  .intro f args r h;simp only[dG]at h;cases b:A f with
   |none=>rw[b]at h;exact g.pure f args r h
   |some d=>
    rw[b]at h;simp only[prun]at h;cases o:jH (dG A X n) (n+1) d (args.map aQ) [] 0 with
    |none=>rw[o]at h;cases h
    |some q=>
     obtain⟨v,u,k⟩:=q;rw[o]at h;simp only at h;exact(Fz m c (l f d b) o).pure h
  .intro f args H i r j e h;simp only[dG]at h;cases b:A f with
   |none=>rw[b]at h;exact g.de f args H i r j e h
   |some d=>rw[b]at h;exact Fz m c (l f d b) h
  .intro f args H i r j h;simp only[dG]at h;cases b:A f with
   |none=>rw[b]at h;cases h
   |some d=>
    rw[b]at h;rcases l f d b with p|⟨k,x,z,t,_⟩
    .exact Mi m c p h
    .simp only[ss,t,aN]at h;split at h<;>cases h
def s7:bS P lD:=⟨λf args r h=>(by cases h),λf args H b r c d h=>(by cases h),λf args H b r c h=>(by cases h)⟩
end
end
end Go.Dv
