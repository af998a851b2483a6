/- Lemmas for the law of this claim. -/
import Derived.Scope
import Derived.Test.YtcphhjkcgikdgaaGreatDoorP14
import Derived.Test.YtcphhjkcgikdgaaGreatDoorP15
set_option linter.all false
namespace Go.Dv
section
open Go.RowKit
section
variable{P:Program}{B:Nat}{w0:World}{U0:Nat->Prop}{β:Place}{w:World}{nt:Cx}{s:St}{a:Act}{cf:aK}
def vv{b:Type}:∀(l:List (Nat×b)) (k:Nat) (v:b),ag l k=some v->(k,v)∈l
 |[],k,v,h=>by simp[ag]at h
 |(j,u)::r,k,v,h=>by
   rw[aw]at h;split at h
   .rename_i e;subst e;cases h;simp
   .exact List.mem_cons_of_mem _ (vv r k v h)
def bJ.less(g:bJ B w0 U0 nt β s a w){b:Heap}(l:ig s.heap b){env':Env}(c:∀k d,ag env' k=some d->ag s.env k=some d):bJ B w0 U0 nt β {s with env:=env',heap:=b} a w:=
 ⟨g.mem.less l,λk d e=>by
  obtain⟨v,f,h⟩:=g.env k d (c k d e);exact⟨v,f,h.cw (l.keeps w) (l.cw (Nat.le_refl _))⟩,g.size,g.defers,g.keeps.trans (l.keeps w),g.cw.trans (l.cw (Nat.le_refl _)),g.marks⟩
def mY(c:Nat)(H:Heap):ig H (aD c H):=by
 refine⟨λid aZ h=>?_⟩;have b:=(nD c H id aZ h).1;rw[cY c H id b]at h;exact⟨aZ,h,.inl rfl⟩
def qB{H:Heap}{G c:Nat}:∀(n:Nat) (d:DV) (v:Value),below c n d=true->bg w (Own U0 β H) β H G d v->bg w (Own U0 β (aD c H)) β (aD c H) c d v:=by
 have I:=(mY c H).keeps (U0:=U0) (β:=β) w;intro n;induction n with
 |zero=>intro d v h;simp[below]at h
 |succ n E=>
  intro d v h J;cases J with
  |p q x K=>exact .p _ _ (K.lI I)
  |agg m o r L t=>
   simp only[below,List.all_eq_true]at h;exact .agg m o r L λj y b=>E y _ (h y (List.mem_of_getElem? b)) (t j y b)
  |tuple m o r t=>
   simp only[below,List.all_eq_true]at h;exact .tuple m o r λj y b=>E y _ (h y (List.mem_of_getElem? b)) (t j y b)
  |func f m o r t=>
   simp only[below,List.all_eq_true]at h;exact .func f m o r λj y b=>E y _ (h y (List.mem_of_getElem? b)) (t j y b)
  |kK f m o r t=>
   simp only[below,List.all_eq_true]at h;exact .kK f m o r λj y b=>E y _ (h y (List.mem_of_getElem? b)) (t j y b)
  |ref id u e k v hid C D F=>
   simp only[below,df]at h;exact .ref id u e k v h C (λg z A l=>D g z A (by rwa [cY c H id h]at l)) (λg z A l=>F g z A (by rwa [cY c H id h]at l))
  |ptr id e v hid C D M=>
   simp only[below,df]at h;exact .ptr id e v h C (λg m l=>D g m (by rwa [cY c H id h]at l)) (λg N l=>M g N (by rwa [cY c H id h]at l))
  |dA id u i e v hid C D F=>
   simp only[below,df]at h;exact .dA id u i e v h C (λg z A l=>D g z A (by rwa [cY c H id h]at l)) (λg z A l=>F g z A (by rwa [cY c H id h]at l))
def la(g:bJ B w0 U0 nt β s a w){c:Nat}{Y:St}(R:nt.ns<=c)(h:jB c s=some Y):bJ B w0 U0 nt β Y a w:=by
 unfold jB at h;simp only at h;split at h
 .rename_i u;simp only[ay]at h;subst h;simp only[aL,df,List.all_eq_true]at u;obtain⟨⟨h1,h2⟩,h3⟩:=u;have l:=mY c s.heap;have H:=g.mem.less l;refine⟨⟨H.below,H.bsize,H.u0,⟨λid aZ I=>(nD c _ _ _ I).1,λid aZ I=>?_,H.h.inj⟩,H.tab⟩,λk d Z=>?_,g.size,g.defers,g.keeps.trans (l.keeps w),⟨R,λid hid C J K m=>?_,λid hid C O m=>?_,λid hid C O m=>?_,λid hid C J K m=>?_⟩,g.marks⟩
  .have hid:=(nD c _ _ _ I).1;have A:=I;rw[cY c _ id hid]at A;have o:=h2 (id,aZ) (vv _ _ _ I);have L:=g.mem.h.aZ id aZ A;have hk:=l.keeps (U0:=U0) (β:=β) w;cases aZ with
   |var f O=>
    obtain⟨b,q,z,T,r,t,D,E,F,M⟩:=L;simp only[bq.below,List.all_eq_true]at o;exact⟨b,q,z,T,r,t,D,E,F,λj d N=>qB dep d _ (o d (List.mem_of_getElem? N)) (M j d N)⟩
   |row f J K=>
    rcases L with⟨r,t⟩|⟨b,q,z,T,r,t,D,E,F,M,S,U,V,W⟩
    .exact .inl ⟨r,t⟩
    .exact .inr ⟨b,q,z,T,r,t,D,E,F,M,S,U,V,λi x j y m Q=>(W i x j y m Q).lI hk⟩
   |map f kv=>
    cases kv with
    |strs n g=>exact L
    |ints kv=>
    obtain⟨b,q,es,G,r,t,D,E,X,F⟩:=L;simp only[bq.below,List.all_eq_true]at o;refine⟨b,q,es,G,r,t,D,E,X,λj k p N=>?_⟩;obtain⟨e,a1,a2,a3,a4⟩:=F j k p N;exact⟨e,a1,a2,a3,qB dep p _ (o (k,p) (List.mem_of_getElem? N)) a4⟩
   |aV f J K=>
    simp only[bq.below,List.all_eq_true]at o;rcases L with⟨r,t⟩|⟨b,q,z,T,r,t,D,E,F,M,S,U,V,W⟩
    .exact .inl ⟨r,t⟩
    .exact .inr ⟨b,q,z,T,r,t,D,E,F,M,S,U,V,λi x j y m Q=>qB dep y _ (o x (List.mem_of_getElem? m) y (List.mem_of_getElem? Q)) (W i x j y m Q)⟩
  .obtain⟨v,r,t⟩:=g.env k d Z;exact⟨v,r,qB dep d v (h1 (k,d) (vv _ _ _ Z)) t⟩
  .rw[cY c _ id ae]at m;exact g.cw.row id hid C J K m
  .rw[cY c _ id ae]at m;exact g.cw.var id hid C O m
  .rw[cY c _ id ae]at m;exact g.cw.map id hid C O m
  .rw[cY c _ id ae]at m;exact g.cw.aV id hid C J K m
 .cases h
def MR(g:bJ B w0 U0 nt β s a w){o k:Nat}(t:ag s.env k=some (.p (.slice true []))):
  ∃f,bJ B w0 U0 nt f {s with env:=fI s.env k (.ref s.next 0 0 0),heap:=(s.next,.row false o [])::s.heap,next:=s.next+1} a w:=by
 obtain⟨v,u,x⟩:=g.env k _ t;have y:∃i,v=.slice i 0 0:=by
  cases x with|p _ _ z=>
   cases z with
   |none _ i c h=>exact⟨i,by rw[h rfl]⟩
   |slice _ _ b A c o C T G H q=>simp at q
 obtain⟨i,rfl⟩:=y;obtain⟨f,m,l,r,D⟩:=DD (g.mem) o i;refine⟨f,⟨m,λj d n=>?_,g.size,g.defers,g.keeps.trans l,g.cw.trans r,g.marks⟩⟩;rw[kb]at n;split at n
 .rename_i e;subst e;cases n;exact⟨_,u,D⟩
 .obtain⟨v,E,F⟩:=g.env j d n;exact⟨v,E,F.cw l r⟩
def xF:∀(l:List Nat) (s c:St),bJ B w0 U0 nt β s a w->pE l s=some c->bJ B w0 U0 nt β c a w
 |[],s,c,g,h=>by simp only[pE,ay]at h;subst h;exact g
 |k::r,s,c,g,h=>by
  simp only[pE]at h;cases m:ag s.env k with
  |none=>rw[m]at h;cases h
  |some d=>
   rw[m]at h;simp only at h;cases n:aS s.heap dep d with
   |none=>rw[n]at h;cases h
   |some p=>
    rw[n]at h;refine xF r _ c ?_ h;obtain⟨v,q,t⟩:=g.env k d m;have l:=lx (fg s.heap dep d) s.heap;have o:=ra g.mem (fg s.heap dep d) dep d p v n (λi u=>u) t;have b:=g.less l (env':=s.env) (λ_ _ h=>h);refine⟨b.mem,λj e f=>?_,b.size,b.defers,b.keeps,b.cw,b.marks⟩;rw[kb]at f;split at f
    .rename_i e;subst e;cases f;exact⟨v,q,pJ o⟩
    .exact b.env j e f
def Gw(g:bJ B w0 U0 nt β s a w){y id f:Nat}{x:List DV}(F:ag s.heap id=some (.var false x))(z:x[f]?=some (.p (.slice true []))):
  ∃l,bJ B w0 U0 nt l {s with heap:=aC ((s.next,.row false y [])::s.heap) id (.var false (x.set f (.ref s.next 0 0 0))),next:=s.next+1} a w:=by
 obtain⟨b,c,q,T,I,N,J,O,Z,Q⟩:=g.mem.h.aZ id _ F;have E:∃A,q.getD f undef=.slice A 0 0:=by
  have:=Q _ _ z;generalize q.getD f undef=xv at this;cases this with|p _ _ R=>
   cases R with
   |none _ A c h=>exact⟨A,by rw[h rfl]⟩
   |slice _ _ b f c y q T fz vs G=>simp at G
 obtain⟨A,E⟩:=E;obtain⟨l,m,C,H,S⟩:=DD (g.mem) y A;have hid:=g.mem.h.lt _ _ F;have n:ag ((s.next,bq.row false y [])::s.heap) id=some (.var false x):=by rw[aw,ak ae];exact F
 obtain⟨U,K,L,T',k1,k2,k3,k4,V,W⟩:=m.h.aZ id _ n;obtain⟨_,_,_,D⟩:=H.var id hid false x n;rw[D,I]at k1;simp only[ay,bY]at k1;obtain⟨rfl,rfl⟩:=k1;rw[J]at k3;simp only[ay,Obj.cells.injEq]at k3;obtain⟨rfl,rfl,_⟩:=k3;have u:qE l ((s.next,bq.row false y [])::s.heap) (s.next+1) w l (aC ((s.next,.row false y [])::s.heap) id (.var false (x.set f (.ref s.next 0 0 0)))) (s.next+1) w id (.var false (x.set f (.ref s.next 0 0 0))):=by
  refine⟨λk M=>?_,?_,rfl,λk M=>rfl,Nat.le_refl _,ae,.inr ⟨_,n,rfl,rfl⟩,λb o h=>.inl h,λU K h=>.inr ⟨K,_,h,n⟩⟩
  .rw[aA,ak (λe=>M e.symm)]
  .rw[aA,aq rfl,n];rfl
 have r:=u.keeps (U0:=U0);have t:=u.cw;refine⟨l,⟨u.mem m (Below.refl _ _) ⟨b,c,q,T,by rw[D,I],N,J,by simpa using O,λj d i=>?_,λj d i=>?_⟩,λj d i=>?_,g.size,g.defers,(g.keeps.trans C).trans r,(g.cw.trans H).trans t,g.marks⟩⟩
 .rw[List.getElem?_set]at i;split at i
  .rename_i e;subst e;rw[E];rfl
  .exact V j d i
 .rw[List.getElem?_set]at i;split at i
  .rename_i e;subst e;split at i
   .simp only[ay]at i;subst i;rw[E];exact S.cw r t
   .cases i
  .exact(W j d i).cw r t
 .obtain⟨v,X,Y⟩:=g.env j d i;exact⟨v,X,(Y.cw C H).cw r t⟩
def Fe(g:bJ B w0 U0 nt β s a w){y id f:Nat}{x:List DV}(F:ag s.heap id=some (.var false x))(z:x[f]?=some (.p (.slice true []))):
  ∃l,bJ B w0 U0 nt l {s with heap:=aC ((s.next,.aV false y [])::s.heap) id (.var false (x.set f (.ref s.next 0 0 0))),next:=s.next+1} a w:=by
 obtain⟨b,c,q,T,I,N,J,O,Z,Q⟩:=g.mem.h.aZ id _ F;have E:∃A,q.getD f undef=.slice A 0 0:=by
  have:=Q _ _ z;generalize q.getD f undef=xv at this;cases this with|p _ _ R=>
   cases R with
   |none _ A c h=>exact⟨A,by rw[h rfl]⟩
   |slice _ _ b f c y q T fz vs G=>simp at G
 obtain⟨A,E⟩:=E;obtain⟨l,m,C,H,S⟩:=Rc (g.mem) y A;have hid:=g.mem.h.lt _ _ F;have n:ag ((s.next,bq.aV false y [])::s.heap) id=some (.var false x):=by rw[aw,ak ae];exact F
 obtain⟨U,K,L,T',k1,k2,k3,k4,V,W⟩:=m.h.aZ id _ n;obtain⟨_,_,_,D⟩:=H.var id hid false x n;rw[D,I]at k1;simp only[ay,bY]at k1;obtain⟨rfl,rfl⟩:=k1;rw[J]at k3;simp only[ay,Obj.cells.injEq]at k3;obtain⟨rfl,rfl,_⟩:=k3;have u:qE l ((s.next,bq.aV false y [])::s.heap) (s.next+1) w l (aC ((s.next,.aV false y [])::s.heap) id (.var false (x.set f (.ref s.next 0 0 0)))) (s.next+1) w id (.var false (x.set f (.ref s.next 0 0 0))):=by
  refine⟨λk M=>?_,?_,rfl,λk M=>rfl,Nat.le_refl _,ae,.inr ⟨_,n,rfl,rfl⟩,λb o h=>.inl h,λU K h=>.inr ⟨K,_,h,n⟩⟩
  .rw[aA,ak (λe=>M e.symm)]
  .rw[aA,aq rfl,n];rfl
 have r:=u.keeps (U0:=U0);have t:=u.cw;refine⟨l,⟨u.mem m (Below.refl _ _) ⟨b,c,q,T,by rw[D,I],N,J,by simpa using O,λj d i=>?_,λj d i=>?_⟩,λj d i=>?_,g.size,g.defers,(g.keeps.trans C).trans r,(g.cw.trans H).trans t,g.marks⟩⟩
 .rw[List.getElem?_set]at i;split at i
  .rename_i e;subst e;rw[E];rfl
  .exact V j d i
 .rw[List.getElem?_set]at i;split at i
  .rename_i e;subst e;split at i
   .simp only[ay]at i;subst i;rw[E];exact S.cw r t
   .cases i
  .exact(W j d i).cw r t
 .obtain⟨v,X,Y⟩:=g.env j d i;exact⟨v,X,(Y.cw C H).cw r t⟩
def G1(g:bJ B w0 U0 nt β s a w){p:Ea}{e:St}(h:gz p s=some e):∃f,bJ B w0 U0 nt f e a w:=by
 cases p with
 |forget l=>
  simp only[gz,ay]at h;subst h;exact⟨β,g.less (ig.refl _) λk d i=>gX l _ _ _ i⟩
 |free l=>
  simp only[gz,ay]at h;subst h;exact⟨β,g.less (I7 _ _) λk d i=>gX l _ _ _ i⟩
 |mark=>
  simp only[gz,ay]at h;subst h;refine⟨β,g.mem,g.env,g.size,g.defers,g.keeps,g.cw,λc j=>?_⟩;rcases List.mem_cons.1 j with rfl|j
  .exact g.cw.next
  .exact g.marks c j
 |reset=>
  simp only[gz]at h;split at h
  .rename_i c r m;exact⟨β,la g (g.marks c (by rw[m];simp)) h⟩
  .cases h
 |lower=>
  simp only[gz]at h;split at h
  .rename_i c r m;exact⟨β,la g (ep (g.marks c (by rw[m];simp)) (mz _ _)) h⟩
  .cases h
 |pure l=>
  simp only[gz]at h;exact⟨β,xF l s e g h⟩
 |ry q k off=>
  simp only[gz]at h;split at h
  case h_2=>cases h
  rename_i id n;split at h
  case h_2=>cases h
  rename_i t o;split at h
  case h_2=>cases h
  rename_i b;simp only[ay]at h;subst h;exact Gw g o b
 |G8 q k off=>
  simp only[gz]at h;split at h
  case h_2=>cases h
  rename_i id n;split at h
  case h_2=>cases h
  rename_i t o;split at h
  case h_2=>cases h
  rename_i b;simp only[ay]at h;subst h;exact Fe g o b
 |own q k=>
  simp only[gz]at h;split at h
  .rename_i n;simp only[ay]at h;subst h;exact MR g n
  .simp only[ay]at h;subst h;exact⟨β,g⟩
  .cases h
def Cf(P:Program)(c:Code)(Q:Exit->Act->World->Prop)(a:Act)(w:World):Prop:=
 ∀(b:Frame) (k:List Item) (d:List Frame),∃e f g,Q e f g/\Arrives P (lone (b.at a (.code c::.inLoop c::k)) d w) b k d e f g
def Lx{c:Code}{Q:Exit->Act->World->Prop}(h:Cf P c Q a w):(Code.loop c).wp P Q a w:=by
 intro b k f;obtain⟨e,g,i,j,d⟩:=h b k f;exact⟨e,g,i,j,.of_steps (.one step_loop) d⟩
def TS{c:Code}{Q:Exit->Act->World->Prop}(h:c.wp P (Exit.then (Cf P c Q) Q) a w):Cf P c Q a w:=by
 intro b k p;obtain⟨e,i,j,q,f⟩:=h b (.inLoop c::k) p;cases e with
 |normal=>
  obtain⟨m,n,o,g,d⟩:=q b k p;exact⟨m,n,o,g,.of_steps (Steps.trans f (.one step_inLoop)) d⟩
 |exit id|goto l|ret|panic r|outgrown=>exact⟨_,i,j,q,.pass (x:=.inLoop c) rfl (λ_ _=>.inl az) f⟩
def ET{f g:St->R}{s:St}{m d:Nat}{hid:List Nat}{r:Ex×St}(h:nk f g s m d hid=some r):∃j k,ag s.env m=some (.p (.map j k))/\(∀t∈hid,ag s.env t=none)/\
  ∀l,iD k l->(match eD f d hid (l.map λe=>sT e.1 e.2) s with|some (.normal,n)=>g n|x=>x)=some r:=by
 obtain⟨c,b,_,i⟩:=vK h;unfold DP at b;split at b
 case h_2=>cases b
 rename_i j k o;split at b
 case isFalse=>cases b
 rename_i p;cases b;exact⟨j,_,o,λt q=>by
  have:=(List.all_eq_true.1 p) t q;simpa using this,λl u=>i l u⟩
def Ap{b:Bd}{c:Code}{str:Bool}{m:Nat}{hid:List Nat}{g:List aj}{x y z:aG}(h:bl P b c (.forIn str m hid g x y z)=true):
  ∃o i d p j k q r e l n dd,c=.seq (.seq (.region o i false) (.block d (.loop (.seq (.region p j false) (.seq (.cond (.tmp k) .skip (.exit d)) (.block q (.seq (.region r e false) l))))))) (.seq n dd)/\
   vp P b str m hid i.toList j.toList e.toList k=true/\cm P {b with pq:=hid.head?.toList++b.pq} e (if str then e.toList else e.toList.tail) g=true/\bl P {b with pq:=hid.head?.toList++b.pq} l x=true/\bl P b n y=true/\bl P b dd z=true:=by
 unfold bl at h;split at h<;>first|(cases h;done)|skip
 all_goals(rename_i f;first|(cases f;done)|skip)
 cases f;simp only[aL,cH]at h;obtain⟨⟨⟨⟨⟨rfl,t⟩,u⟩,v⟩,A⟩,C⟩:=h;exact⟨_,_,_,_,_,_,_,_,_,_,_,_,rfl,t,u,v,A,C⟩
def BO(Z:bV P cf)(K:P.follows .mixedOrders=true)(n:Nat):∀(ac:aG) (c:Code) (N:Bd),bl P N c ac=true->vh B U0 N (aR cf n ac) (λQ a w=>c.wp P Q a w):=by
 intro ac;induction ac with
 |ghost gh x ih=>
  intro c N i w0 nt C β s a w e G g f Q j;subst C;have xs:bl P nt.bd c x=true:=by cases c<;>simpa[bl]using i
  simp only[aR]at f;cases hg:gz gh s with
  |none=>rw[hg]at f;cases f
  |some I=>
   rw[hg]at f;obtain⟨xu,g1⟩:=G1 g hg;exact ih c _ xs w0 nt rfl xu I a w e G g1 f Q j
 |native k fs z=>
  intro c N i w0 nt C β s a w e G g f Q j;simp only[aR]at f;cases f
 |bE xf D=>
  intro c N i w0 nt C β s a w e G g f Q j;subst C;simp only[aR]at f;cases u:oX cf D s with
  |none=>rw[u]at f;cases f
  |some I=>
   rw[u]at f;simp only[ay,bY]at f;obtain⟨rfl,rfl⟩:=f;obtain⟨O,h1,h2⟩:=BF D s I s.env (λ_ _ h=>h) u;cases c with
   |region id os H=>
    simp only[bl,aL,cH]at i;obtain⟨⟨rfl,E⟩,J⟩:=i;exact rj Z K E J g h1 λL M l A=>j _ _ l _ (A.less (ig.refl _) λk d f=>h2 k d f) rfl
   |_=>simp[bl]at i
 |aX D=>
  intro c N i w0 nt C β s a w e G g f Q j;subst C;simp only[aR]at f;cases c with
  |region id os H=>
   simp only[bl,aL,kD]at i;obtain⟨rfl,E⟩:=i;exact DX Z E g f j
  |_=>simp[bl]at i
 |km pre xg post kill=>
  intro c N i w0 nt C β s a w e G g f Q j;subst C;simp only[aR]at f;cases u:l9 cf pre xg post s with
  |none=>rw[u]at f;cases f
  |some q=>
   obtain⟨O,I⟩:=q;rw[u]at f;simp only[ay,bY]at f;obtain⟨rfl,rfl⟩:=f;cases c with
   |region id os H=>
    simp only[bl,aL,df]at i;obtain⟨⟨⟨⟨⟨⟨rfl,E⟩,J⟩,x0⟩,ya⟩,xv⟩,xw⟩:=i;exact CW Z K E J x0 xv xw g u λL M l ex A T=>j L M l ex (A.less (ig.refl _) λk d f=>gX kill _ _ _ f) T
   |_=>simp[bl]at i
 |panic ds x=>
  intro c N i w0 nt C β s a w e G g f Q j;subst C;simp only[aR]at f;cases u:bO cf ds s with
  |none=>rw[u]at f;cases f
  |some I=>
   rw[u]at f;simp only at f;split at f
   .rename_i t v hv;simp only[ay,bY]at f;obtain⟨rfl,rfl⟩:=f;cases c with
    |region id os H=>
     simp only[bl,aL,kD]at i;obtain⟨⟨rfl,E⟩,J⟩:=i;exact HO Z E J g u hv j
    |_=>simp[bl]at i
   .cases f
 |forIn str m hid D x y z U V xi=>
  intro c N i w0 nt C β s a w e G g f Q j;subst C;obtain⟨i1,r1,yc,i2,r2,cc,nx,i3,r3,bc,bb,dd,rfl,hF,E,J,x0,xj⟩:=Ap i;obtain⟨o1,o2,o3,o4,k1,it,n1,Y,mt,u,x9⟩:=Dm hF;have Eh:=x9.eh;subst Eh;simp only[List.head?_cons,Option.toList,List.singleton_append]at E J;simp only[aR]at f;cases str with
  |true=>
   simp only[cQ]at E;simp only at f;split at f
   case h_2=>cases f
   rename_i b C;split at f
   case isFalse=>cases f
   rename_i hn;have xz:∀t∈it::Y::u,ag s.env t=none:=λt ht=>by
    have:=(List.all_eq_true.1 hn) t ht;simpa using this
   have S:vh B U0 {nt.bd with pq:=it::nt.bd.pq} (fe cf D (aR cf n x)) (λQ a w=>(Code.seq (.region i3 r3 false) bc).wp P Q a w):=by
    intro w0 xa xb β s a w e G g f Q j;rw[<-xb]at E J;cases u:bO cf D s with
    |none=>simp only[fe,u]at f;cases f
    |some s2=>
     simp only[fe,u]at f;refine wp_seq (rj Z K E rfl g u λL M l A=>?_);exact U bc _ J w0 xa rfl l s2 L M e G A f Q j
   cases hl:eD (fe cf D (aR cf n x)) Y (it::Y::u) ((runesFrom b (b.size+1) 0).map mg) s with
   |none=>rw[hl]at f;cases f
   |some q=>
   obtain⟨O,I⟩:=q;rw[hl]at f;refine wp_seq (RJ x9 S g C xz hl λL M l ex A p=>?_);cases O with
   |normal=>
    cases p;simp only at f;cases hy:aR cf n y I with
    |none=>rw[hy]at f;cases f
    |some q2=>
    obtain⟨e2,s2⟩:=q2;rw[hy]at f;refine wp_seq (V bb _ x0 w0 nt rfl l I L M e2 s2 A hy _ λa2 w2 R W g2 F=>?_);cases e2 with
    |normal=>cases F;exact xi dd _ xj w0 nt rfl R s2 a2 w2 e G g2 f Q j
    |exit id|ret=>simp only[ay,bY]at f;obtain⟨rfl,rfl⟩:=f;cases F;exact j _ _ _ _ g2 rfl
    |panic q=>simp only[ay,bY]at f;obtain⟨rfl,rfl⟩:=f;obtain⟨z,rfl,X⟩:=F;exact j _ _ _ _ g2 ⟨z,rfl,X⟩
   |exit id|ret=>simp only[ay,bY]at f;obtain⟨rfl,rfl⟩:=f;cases p;exact j _ _ _ _ A rfl
   |panic q=>simp only[ay,bY]at f;obtain⟨rfl,rfl⟩:=f;obtain⟨z,rfl,X⟩:=p;exact j _ _ _ _ A ⟨z,rfl,X⟩
  |false=>
   simp only[Bool.false_eq_true,cK]at E;simp only at f;have S:vh B U0 {nt.bd with pq:=it::nt.bd.pq} (fe cf D (aR cf n x)) (λQ a w=>wpList P r3 (Exit.then (bc.wp P Q) Q) r3.toList.tail a w):=by
    intro w0 xa xb β s a w e G g f Q j;rw[<-xb]at E J;cases u:bO cf D s with
    |none=>simp only[fe,u]at f;cases f
    |some s2=>
     simp only[fe,u]at f;refine uP Z _ _ E s a w β s2 g u λL M l A=>?_
     exact U bc _ J w0 xa rfl l s2 L M e G A f Q j
   cases hp:nk (fe cf D (aR cf n x)) (aR cf n y) s m Y (it::Y::u)with
   |none=>rw[hp]at f;cases f
   |some q=>
   obtain⟨O,I⟩:=q;rw[hp]at f;obtain⟨nn,fm,C,hn,xm⟩:=ET hp;have xn:∀a2 w2 R W,bJ B w0 U0 nt R I a2 w2->uT w2 (Own U0 R I.heap) O W->Exit.then (dd.wp P Q) Q W a2 w2:=by
    intro a2 w2 R W g2 F;cases O with
    |normal=>cases F;exact xi dd _ xj w0 nt rfl R I a2 w2 e G g2 f Q j
    |exit id|ret=>simp only[ay,bY]at f;obtain⟨rfl,rfl⟩:=f;cases F;exact j _ _ _ _ g2 rfl
    |panic q=>simp only[ay,bY]at f;obtain⟨rfl,rfl⟩:=f;obtain⟨z,rfl,X⟩:=F;exact j _ _ _ _ g2 ⟨z,rfl,X⟩
   refine wp_seq (Uw (g0:=aR cf n y) x9 S g C hn xm (λL M l ex y2 A p=>?_) (λL M l sx A hy=>?_))
   .have:=xn L M l ex A p;cases O with
    |normal=>exact absurd rfl y2
    |exit id|ret=>cases p;exact this
    |panic q=>obtain⟨z,rfl,X⟩:=p;exact this
   .exact wp_seq (V bb _ x0 w0 nt rfl l sx L M O I A hy _ λa2 w2 R W g2 F=>xn a2 w2 R W g2 F)
 |skip=>
  intro c N i w0 nt C β s a w e G g f Q j;simp only[aR,ay,bY]at f;obtain⟨rfl,rfl⟩:=f;cases c<;>first|(simp[bl]at i;done)|exact wp_skip (j _ _ _ _ g rfl)|exact wp_label (j _ _ _ _ g rfl)
 |ret=>
  intro c N i w0 nt C β s a w e G g f Q j;simp only[aR,ay,bY]at f;obtain⟨rfl,rfl⟩:=f;cases c<;>first|(simp[bl]at i;done)|exact wp_ret (j _ _ _ _ g rfl)
 |exit id=>
  intro c N i w0 nt C β s a w e G g f Q j;simp only[aR,ay,bY]at f;obtain⟨rfl,rfl⟩:=f;cases c with
  |exit xo=>
   simp only[bl,cH]at i;subst i;exact wp_exit (j _ _ _ _ g rfl)
  |_=>simp[bl]at i
 |region xf D kill=>
  intro c N i w0 nt C β s a w e G g f Q j;subst C;simp only[aR]at f;cases u:bO cf D s with
  |none=>rw[u]at f;cases f
  |some I=>
   rw[u]at f;simp only[ay,bY]at f;obtain⟨rfl,rfl⟩:=f;cases c with
   |region id os H=>
    simp only[bl,aL,cH]at i;obtain⟨⟨rfl,h1⟩,h2⟩:=i;exact rj Z K h1 h2 g u λL M l A=>j _ _ l _ (A.less (ig.refl _) λk d f=>gX kill _ _ _ f) rfl
   |_=>simp[bl]at i
 |jY x4 D kill=>
  intro c N i w0 nt C β s a w e G g f Q j;subst C;simp only[aR]at f;cases u:bO cf D s with
  |none=>rw[u]at f;cases f
  |some I=>
   rw[u]at f;simp only at f;split at f
   .rename_i hq;simp only[ay,bY]at f;obtain⟨rfl,rfl⟩:=f;cases c with
    |region id os H=>
     simp only[bl,aL]at i;obtain⟨⟨rfl,h1⟩,h2⟩:=i;exact D6 Z K h1 h2 g u hq λL M l A=>j _ _ l _ (A.less (ig.refl _) λk d f=>gX kill _ _ _ f) rfl
    |_=>simp[bl]at i
   .cases f
 |nu x4 rk xp D ks kill=>
  intro c N i w0 nt C β s a w e G g f Q j;subst C;simp only[aR]at f;cases u:vX cf D x4 ks xp s with
  |none=>rw[u]at f;cases f
  |some I=>
   rw[u]at f;simp only[ay,bY]at f;obtain⟨rfl,rfl⟩:=f;cases c with
   |region id os H=>
    simp only[bl,aL]at i;obtain⟨⟨⟨rfl,h1⟩,h2⟩,h3⟩:=i;exact En Z K h1 h2 h3 g u λL M l A=>j _ _ l _ (A.less (ig.refl _) λk d f=>gX kill _ _ _ f) rfl
   |_=>simp[bl]at i
 |seq x y U V=>
  intro c N i w0 nt C β s a w e G g f Q j;subst C;cases c with
  |seq x' y'=>
   simp only[bl,aL]at i;simp only[aR]at f;cases T:aR cf n x s with
   |none=>rw[T]at f;cases f
   |some r=>
    obtain⟨O,I⟩:=r;rw[T]at f;refine wp_seq (U x' _ i.1 w0 nt rfl β s a w O I g T _ λL M l ex A p=>?_);cases O with
    |normal=>cases p;exact V y' _ i.2 w0 nt rfl l I L M e G A f Q j
    |exit id|ret=>simp only[ay,bY]at f;obtain⟨rfl,rfl⟩:=f;cases p;exact j _ _ _ _ A rfl
    |panic q=>simp only[ay,bY]at f;obtain⟨rfl,rfl⟩:=f;obtain⟨z,rfl,X⟩:=p;exact j _ _ _ _ A ⟨z,rfl,X⟩
  |_=>simp[bl]at i
 |cond o x y U V=>
  intro c N i w0 nt C β s a w e G g f Q j;subst C;cases c with
  |cond o' x' y'=>
   simp only[bl,aL]at i;simp only[aR]at f;split at f
   .rename_i hv;exact wp_cond_true ((g.ev i.1.1 hv).ly) (U x' _ i.1.2 w0 nt rfl β s a w e G g f Q j)
   .rename_i hv;exact wp_cond_false ((g.ev i.1.1 hv).ly) (V y' _ i.2 w0 nt rfl β s a w e G g f Q j)
   .cases f
  |_=>simp[bl]at i
 |block id x ih=>
  intro c N i w0 nt C β s a w e G g f Q j;subst C;cases c with
  |block xo x'=>
   simp only[bl,aL,cH]at i;obtain⟨rfl,i⟩:=i;simp only[aR]at f;cases T:aR cf n x s with
   |none=>rw[T]at f;cases f
   |some r=>
    obtain⟨O,I⟩:=r;rw[T]at f;refine wp_block (ih x' _ i w0 nt rfl β s a w O I g T _ λL M l ex A p=>?_);cases O with
    |normal|ret=>simp only[ay,bY]at f;obtain⟨rfl,rfl⟩:=f;cases p;exact j _ _ _ _ A rfl
    |panic q=>simp only[ay,bY]at f;obtain⟨rfl,rfl⟩:=f;obtain⟨z,rfl,X⟩:=p;exact j _ _ _ _ A ⟨z,rfl,X⟩
    |exit k=>
     cases p;simp only at f;by_cases hk:k=xo
     .rw[aq hk]at f;simp only[ay,bY]at f;obtain⟨rfl,rfl⟩:=f;simp only[Exit.inBlock,aq hk];exact j _ _ _ _ A rfl
     .rw[ak hk]at f;simp only[ay,bY]at f;obtain⟨rfl,rfl⟩:=f;simp only[Exit.inBlock,ak hk];exact j _ _ _ _ A rfl
  |_=>simp[bl]at i
 |loop x ih=>
  intro c N i w0 nt C β s a w e G g f Q j;subst C;cases c with
  |loop x'=>
   simp only[bl]at i;simp only[aR]at f;refine Lx ?_;have y4:∀(k:Nat) (β:Place) (s:St) (a:Act) (w:World),bJ B w0 U0 nt β s a w->lh (aR cf n x) k s=some (e,G)->Cf P x' Q a w:=by
    intro k;induction k with
    |zero=>intro β s a w g f;simp[lh]at f
    |succ k y5=>
     intro β s a w g f;simp only[lh]at f;cases T:aR cf n x s with
     |none=>rw[T]at f;cases f
     |some r=>
      obtain⟨O,I⟩:=r;rw[T]at f;refine TS (ih x' _ i w0 nt rfl β s a w O I g T _ λL M l ex A p=>?_);cases O with
      |normal=>cases p;exact y5 l I L M A f
      |exit id|ret=>simp only[ay,bY]at f;obtain⟨rfl,rfl⟩:=f;cases p;exact j _ _ _ _ A rfl
      |panic q=>simp only[ay,bY]at f;obtain⟨rfl,rfl⟩:=f;obtain⟨z,rfl,X⟩:=p;exact j _ _ _ _ A ⟨z,rfl,X⟩
   exact y4 n β s a w g f
  |_=>simp[bl]at i
def wB:∀(args:List DV) (k i:Nat) (d:DV),ag (ai k args) i=some d->k<=i/\args[i-k]?=some d
 |[],k,i,d,h=>by simp[ai,ag]at h
 |v::r,k,i,d,h=>by
  simp only[ai]at h;rw[aw]at h;split at h
  .rename_i e;subst e;cases h;exact⟨Nat.le_refl _,az⟩
  .obtain⟨c,b⟩:=wB r (k+1) i d h;refine⟨ae,?_⟩;rw[show i-k=(i-(k+1))+1 from ae,List.getElem?_cons_succ];exact b
def uC(g:bJ B w0 U0 nt β s a w):∀(I:List ResultVar) (i:List gB) (l:List DV),fC P I i=true->bP (tv s) i=some l->
  ∃A:List Value,((I.mapM fun
   | .tmp t=>pure (a.tmps.getD t undef)
   | .cell x t=>do loadVar t (<-asAddr (a.tmps.getD x undef)):Sem (List Value))).run P w=.ok A w/\A.length=l.length/\∀(j:Nat) (d:DV),l[j]?=some d->bg w (Own U0 β s.heap) β s.heap s.next d (A.getD j undef)
 |[],[],l,_,h=>by simp only[bP,ay]at h;subst h;exact⟨[],rfl,rfl,az⟩
 | .tmp t::I,.tmp t'::i,l,k,h=>by
  simp only[fC,aL,cH]at k;obtain⟨rfl,k⟩:=k;simp only[bP,tv]at h;cases J:ag s.env t with
  |none=>rw[J]at h;cases h
  |some d=>
   rw[J]at h;simp only at h;cases C:bP (tv s) i with
   |none=>rw[C]at h;cases h
   |some r=>
    rw[C]at h;simp only[ay]at h;subst h;obtain⟨A,M,N,O⟩:=uC g I i r k C;obtain⟨v,D,u⟩:=g.env _ _ J;have E:a.tmps.getD t undef=v:=tS D;refine⟨v::A,?_,by simp[N],λj Q m=>?_⟩
    .rw[List.mapM_cons];simp only[Sem.run_bind,Sem.run_pure,Result.andThen_ok,E];rw[M];rfl
    .cases j with
     |zero=>simp only[List.getElem?_cons_zero,ay]at m;subst m;simpa using u
     |succ j=>simp only[List.getElem?_cons_succ]at m;simpa using O j Q m
 | .cell t X::I,.cell t' n::i,l,k,h=>by
  simp only[fC,aL,cH,df]at k;obtain⟨⟨⟨⟨rfl,K⟩,R⟩,Y⟩,k⟩:=k;simp only[bP]at h;cases c:tv s (.cell t n)with
  |none=>rw[c]at h;cases h
  |some d=>
   rw[c]at h;simp only at h;cases C:bP (tv s) i with
   |none=>rw[C]at h;cases h
   |some r=>
    rw[C]at h;simp only[ay]at h;subst h;obtain⟨A,M,N,O⟩:=uC g I i r k C;have ht:jd P X=some true:=by split at K<;>first|assumption|cases K
    simp only[tv]at c;split at c
    .rename_i id F J;split at c
     .rename_i f S Z;cases U:ez S F n with
      |none=>rw[U]at c;cases c
      |some l0=>
       rw[U]at c;cases c;rcases kN U with⟨rfl,z⟩|⟨h0,_⟩
       .obtain⟨v,D,u⟩:=g.env _ _ J;have E:a.tmps.getD t undef=v:=tS D;obtain⟨G,H,V,L⟩:=sf (P:=P) (sK g.mem Z u (n:=n) z) ht R;have p:∀(j:Nat) (y:DV),((S.drop F).take n)[j]?=some y->j<n/\S[F+j]?=some y:=by
         intro j y q;rw[List.getElem?_take]at q;split at q
         .rename_i m;rw[List.getElem?_drop]at q;exact⟨m,q⟩
         .cases q
        have W:(do loadVar X (<-asAddr (a.tmps.getD t undef)):Sem Value).run P w=.ok (.agg G) w:=by
         obtain⟨b,o,x0,T,fz,e,_⟩:=sK g.mem Z u (n:=n) z;rw[E,e];rw[e]at H;simp only[Instr.loadAt,Instr.sureAddr,Sem.run_bind,Sem.run_pure,Result.andThen_ok]at H;simp only[asAddr,Sem.run_bind,Sem.run_pure,Result.andThen_ok];exact H
        refine⟨.agg G::A,?_,by simp[N],λj Q m=>?_⟩
        .rw[List.mapM_cons];rw[Sem.run_bind,W];simp only[Result.andThen_ok,Sem.run_bind];rw[M];rfl
        .cases j with
         |zero=>
          simp only[List.getElem?_cons_zero,ay]at m;subst m;simp only[List.getD_cons_zero];exact .agg _ G (by rw[V];simp;omega) (λj y q=>(L j (p j y q).1).1) (λj y q=>(L j (p j y q).1).2 _ (p j y q).2)
         |succ j=>simp only[List.getElem?_cons_succ]at m;simpa using O j Q m
       .omega
     .cases c
    .cases c
 | .tmp _::_,.cell _ _::_,_,k,_=>by simp[fC]at k
 | .cell _ _::_,.tmp _::_,_,k,_=>by simp[fC]at k
 |[],_::_,_,k,_=>by simp[fC]at k
 |_::_,[],_,k,_=>by cases‹ResultVar›<;>simp[fC]at k
def GV(g:bJ B w0 U0 nt β s a w){f:Func}{b:List gB}(o:fC P f.results.toList b=true){d:DV}(h:fP s b=some d):
  ∃v,(results f a.tmps).run P w=.ok v w/\bg w (Own U0 β s.heap) β s.heap s.next d v:=by
 unfold fP at h;cases i:bP (tv s) b with
 |none=>rw[i]at h;cases h
 |some l=>
  rw[i]at h;obtain⟨c,p,e,n⟩:=uC g _ _ _ o i;have t:(results f a.tmps).run P w=.ok (if h:c.toArray.size=1 then c.toArray[0]else .tuple c.toArray) w:=by
   unfold results;rw[Sem.run_bind,Sl,Sem.run_map];exact AV (λz:Result (List Value)=>(z.andThen λa k=>Result.ok a.toArray k).andThen λa k=>(Sem.run P (pure (if h:a.size=1 then a[0]else Value.tuple a):Sem Value) k)) p
  refine⟨_,t,?_⟩;cases l with
  |nil=>
   simp only[ay]at h;subst h;have:c=[]:=List.eq_nil_of_length_eq_zero (by simpa using e);subst this;simp only[List.size_toArray,List.length_nil,Nat.zero_ne_one,dite_false];exact .tuple [] _ rfl az
  |cons x r=>
   cases r with
   |nil=>
    simp only[ay]at h;subst h;cases c with
    |nil=>simp at e
    |cons v q=>
     have:q=[]:=List.eq_nil_of_length_eq_zero (by simpa using e);subst this;simpa using n 0 x rfl
   |cons y r=>
    simp only[ay]at h;subst h;have m:¬c.toArray.size=1:=by simp[e]
    rw[dif_neg m];exact .tuple _ _ (by simpa using e) (λj d u=>by have:=n j d u;rw[List.getD_eq_getElem?_getD]at this;rw[dH,List.getElem?_toArray];exact this)
def E0{b:Bd}{c:Code}{ac:aG}(h:bl P b c ac=true):ik ac=none:=by
 cases ac with
 |native k d z=>cases c<;>simp[bl]at h
 |_=>rfl
def qQ(Y:bV P cf)(E:P.follows .mixedOrders=true){f:FuncId}{l:av}(o:jG P f l=true){n:Nat}{args:List DV}{H:Heap}{h:Nat}{r:DV}{Q:Heap}{p:Nat}(b:jH cf n l args H h=some (r,Q,p)):kj P f args H h r Q p:=by
 unfold jG at o;cases t:P.funcs[f]? with
 |none=>rw[t]at o;cases o
 |some fn=>
 rw[t]at o;simp only at o;cases R:fn.body with
 |none=>rw[R]at o;cases o
 |some c=>
 rw[R]at o;simp only[aL,GZ,tK,cH,df]at o;obtain⟨⟨⟨⟨z,Z⟩,x0⟩,F⟩,i⟩:=o;have G:=E0 i;refine⟨⟨fn,t,by simpa using z,by rw[R];rfl⟩,?_⟩
 intro B w0 U0 β w A m x1 I;unfold jH at b;rw[G]at b;simp only at b;split at b
 .rename_i W;cases S:aR cf n l.body {env:=ai 0 args,heap:=H,next:=h,marks:=[h]}with
  |none=>rw[S]at b;cases b
  |some q=>
  obtain⟨e,y⟩:=q;rw[S]at b;have J:(e=.normal\/e=.ret)/\∃v,fP y l.results=some v/\oZ l.rs h v y=some (r,Q,p):=by
   cases e with
   |exit id|panic q=>cases b
   |normal=>
    simp only at b;cases K:fP y l.results with
    |none=>rw[K]at b;cases b
    |some v=>rw[K]at b;exact⟨.inl rfl,_,rfl,b⟩
   |ret=>
    simp only at b;cases K:fP y l.results with
    |none=>rw[K]at b;cases b
    |some v=>rw[K]at b;exact⟨.inr rfl,_,rfl,b⟩
  obtain⟨he,v,hv,g⟩:=J;have g0:bJ B w0 U0 ⟨l.ntmps,w,β,H,h,[],λ_=>undef⟩ β {env:=ai 0 args,heap:=H,next:=h,marks:=[h]} {tmps:=A++Array.replicate (fn.ntmps-A.size) undef,defers:=[]} w:=by
   refine⟨m,λk d hk=>?_,?_,⟨rfl,az⟩,eJ.refl _ _,mn.refl _ _ _,az⟩
   .obtain⟨_,C⟩:=wB args 0 k d hk;rw[lQ]at C;have X:=aN C;refine⟨A.getD k undef,?_,I k d C⟩
    show(A++Array.replicate (fn.ntmps-A.size) undef)[k]?=_
    rw[AY,aq ae];exact iL ae
   .show(A++Array.replicate (fn.ntmps-A.size) undef).size=l.ntmps
    simp;omega
  refine calls_of_wp t R (BO Y E n l.body c _ i w0 _ rfl β _ _ w e y g0 S _ λa' T L ex D M=>?_);obtain⟨x,N,O⟩:=GV D F hv;have j:bodyPost P fn (λe T=>∃x,e=.returned x/\Good B w0 U0 H h β w r Q p x T) .ret a' T:=by
   unfold oZ at g;split at g
   .split at g
    .rename_i u;cases g;simp only[aL]at u;have g1:=D.less (ig.refl _) (env':=[]) (λk d b=>by simp[ag]at b);have U:jB h {y with env:=[]}=some {y with env:=[],heap:=aD h y.heap,next:=h}:=by
      unfold jB;simp only[List.all_nil,Bool.true_and];rw[aq (by simp only[aL];exact⟨u.1.2,u.2⟩)]
     have V:=la g1 (Nat.le_refl _) U;exact⟨D.defers.1,x,N,x,rfl,L,V.mem,V.keeps,V.cw,qB dep r x u.1.1 O⟩
    .cases g
   .cases g;exact⟨D.defers.1,x,N,x,rfl,L,D.mem,D.keeps,D.cw,O⟩
  rcases he with rfl|rfl
  .cases M;exact j
  .cases M;exact j
 .cases b
def Ni(O:bV P cf)(u:P.follows .mixedOrders=true){f:FuncId}{t:av}(h:jG P f t=true){n:Nat}{args:List DV}{H:Heap}{g:Nat}{r:PV}{J:Heap}(b:sH cf n t args H g=some (r,J)):Oa P f args H g r J:=by
 unfold jG at h;cases i:P.funcs[f]? with
 |none=>rw[i]at h;cases h
 |some fn=>
 rw[i]at h;simp only at h;cases A:fn.body with
 |none=>rw[A]at h;cases h
 |some c=>
 rw[A]at h;simp only[aL,GZ,tK,cH,df]at h;obtain⟨⟨⟨⟨j,Q⟩,R⟩,K⟩,l⟩:=h;refine⟨⟨fn,i,by simpa using j,by rw[A];rfl⟩,?_⟩
 intro B w0 U0 β w o m S x;unfold sH at b;split at b
 case isFalse=>cases b
 rename_i L;cases C:aR cf n t.body {env:=ai 0 args,heap:=H,next:=g,marks:=[g]}with
 |none=>rw[C]at b;cases b
 |some q=>
 obtain⟨e,y⟩:=q;rw[C]at b;cases e with
 |normal|exit id|ret=>cases b
 |panic v=>
 simp only at b;split at b
 case isFalse=>cases b
 rename_i D;simp only[ay,bY]at b;obtain⟨rfl,rfl⟩:=b;have T:bJ B w0 U0 ⟨t.ntmps,w,β,H,g,[],λ_=>undef⟩ β {env:=ai 0 args,heap:=H,next:=g,marks:=[g]} {tmps:=o++Array.replicate (fn.ntmps-o.size) undef,defers:=[]} w:=by
  refine⟨m,λk d U=>?_,?_,⟨rfl,az⟩,eJ.refl _ _,mn.refl _ _ _,az⟩
  .obtain⟨_,p⟩:=wB args 0 k d U;rw[lQ]at p;have M:=aN p;refine⟨o.getD k undef,?_,x k d p⟩
   show(o++Array.replicate (fn.ntmps-o.size) undef)[k]?=_
   rw[AY,aq ae];exact iL ae
  .show(o++Array.replicate (fn.ntmps-o.size) undef).size=t.ntmps
   simp;omega
 refine calls_of_wp i A (BO O u n t.body c _ l w0 _ rfl β _ _ w _ y T C _ λY V E Z N F=>?_);obtain⟨z,rfl,W⟩:=F;have X:=N.less (ig.refl _) (env':=[]) (λk d b=>by simp[ag]at b);have G:jB g {y with env:=[]}=some {y with env:=[],heap:=aD g y.heap,next:=g}:=by
  unfold jB;simp only[List.all_nil,Bool.true_and];rw[aq D]
 have I:=la X (Nat.le_refl _) G;refine⟨N.defers.1,z,rfl,E,I.mem,I.keeps,I.cw,.p _ _ (W.lI ((mY g y.heap).keeps V))⟩
def kj.pure{f:FuncId}{args:List PV}{v:DV}{h:Heap}{k:Nat}(A:kj P f (args.map aI) [] 0 v h k){r:PV}(C:aS h dep v=some r):sO P f args r:=by
 obtain⟨n,D⟩:=A;refine⟨n,λU w E F G u q=>?_⟩;have m:Mem w.heap.size w U (λ_=>none) [] 0 w:=⟨Below.refl _ _,Nat.le_refl _,F,⟨λid b h=>by simp[ag]at h,λid b h=>by simp[ag]at h,λid b H N _ _ _ h=>by simp[ag]at h⟩,G⟩;refine(D w.heap.size w U (λ_=>none) w E m (by simpa using u) λj d l=>?_).mono ?_
 .rw[List.getElem?_map]at l;cases g:args[j]? with
  |none=>rw[g]at l;cases l
  |some p=>
   rw[g]at l;simp only[Option.map_some,ay]at l;subst l;refine pJ ((q j p g).lI ?_);refine⟨λ_ _ _ _ h=>h,λb o _ y _ t=>?_⟩;rcases t with t|⟨id,aZ,c,I,_⟩
   .exact y t
   .simp[ag]at I
 .rintro e O ⟨x,rfl,J,z,Q,R,K⟩;refine⟨x,rfl,?_,z.below⟩;have L:=ra z (fg h dep v) dep v r x C (λi M=>M) K;exact L.lI ⟨λ_ _ _ _ h=>h,λb o _ y _ t=>y (.inl t)⟩
def Ay(P:Program)(f:FuncId)(c:aK->List DV->Heap->Nat->Option (DV×Heap×Nat)):Prop:=
 ∀(cf:aK),bV P cf->∀args H d r e b,c cf args H d=some (r,e,b)->kj P f args H d r e b
def sM(P:Program)(f:FuncId)(b:av):Prop:=jG P f b=true\/∃k c z,b.body=.native k c z/\Ay P f (lH k c z)
def FJ(g:bV P cf)(b:P.follows .mixedOrders=true){f:FuncId}{h:av}(e:sM P f h){n:Nat}{args:List DV}{H:Heap}{i:Nat}{r:DV}{j:Heap}{c:Nat}(d:jH cf n h args H i=some (r,j,c)):kj P f args H i r j c:=by
 rcases e with e|⟨k,o,z,l,m⟩
 .exact qQ g b e d
 .unfold jH at d;rw[l]at d;exact m cf g _ _ _ _ _ _ d
def C1(c:P.follows .mixedOrders=true){A:FuncId->Option av}(l:∀f d,A f=some d->sM P f d){X:aK}(g:bV P X):∀n,bV P (dQ A X n)
 |0=>by
  constructor
  .intro f args r h;simp only[dQ]at h;cases b:A f with
   |none=>rw[b]at h;exact g.pure f args r h
   |some d=>rw[b]at h;cases h
  .intro f args H i r j e h;simp only[dQ]at h;cases b:A f with
   |none=>rw[b]at h;exact g.dq f args H i r j e h
   |some d=>rw[b]at h;cases h
  .intro f args H i r j h;simp only[dQ]at h;cases h
 |n+1=>by
  have m:=C1 c l g n;constructor
  .intro f args r h;simp only[dQ]at h;cases b:A f with
   |none=>rw[b]at h;exact g.pure f args r h
   |some d=>
    rw[b]at h;simp only[prun]at h;cases o:jH (dQ A X n) (n+1) d (args.map aI) [] 0 with
    |none=>rw[o]at h;cases h
    |some q=>
     obtain⟨v,u,k⟩:=q;rw[o]at h;simp only at h;exact(FJ m c (l f d b) o).pure h
  .intro f args H i r j e h;simp only[dQ]at h;cases b:A f with
   |none=>rw[b]at h;exact g.dq f args H i r j e h
   |some d=>rw[b]at h;exact FJ m c (l f d b) h
  .intro f args H i r j h;simp only[dQ]at h;cases b:A f with
   |none=>rw[b]at h;cases h
   |some d=>
    rw[b]at h;rcases l f d b with p|⟨k,x,z,t,_⟩
    .exact Ni m c p h
    .simp only[sH,t,aR]at h;split at h<;>cases h
def tO:bV P l6:=⟨λf args r h=>(by cases h),λf args H b r c d h=>(by cases h),λf args H b r c h=>(by cases h)⟩
end
end
end Go.Dv
