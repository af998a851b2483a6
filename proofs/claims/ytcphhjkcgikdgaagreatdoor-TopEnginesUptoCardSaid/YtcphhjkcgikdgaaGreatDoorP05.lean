/- Lemmas for the law of this claim. -/
import Derived.Test.YtcphhjkcgikdgaaGreatDoorP04
set_option linter.all false
namespace Go.Dv
section
open Go.RowKit
def flat(n a:Nat)(b:Nat->Nat->Value):List Value:=(List.range (n*a)).map λk=>b (k/a) (k%a)
def bG(n a:Nat)(b:Nat->Nat->Value):(flat n a b).length=n*a:=by simp[flat]
def jo{n a:Nat}(c:Nat->Nat->Value){i j:Nat}(e:i<n)(d:j<a):(flat n a c)[i*a+j]?=some (c i j):=by
 have b:i*a+j<n*a:=by
  have:(i+1)*a<=n*a:=di _ e;rw[dB,ir]at this;omega
 have f:(i*a+j)/a=i:=by rw[ri,Nat.mul_add_div ae,Nat.div_eq_of_lt d,pY]
 have g:(i*a+j)%a=j:=by rw[ri,Nat.mul_add_mod,Nat.mod_eq_of_lt d]
 simp[flat,b,f,g]
def eT{n a:Nat}(d:Nat->Nat->Value){k:Nat}{v:Value}(h:(flat n a d)[k]?=some v):0<a/\k/a<n/\k%a<a/\v=d (k/a) (k%a):=by
 have c:=aN h;rw[bG]at c;have b:0<a:=by
  rcases pO a with rfl|e
  .simp at c
  .exact e
 refine⟨b,Nat.div_lt_of_lt_mul (by rw[ri];exact c),Nat.mod_lt _ b,?_⟩;simp[flat,c]at h;exact h.symm
section
variable{P:Program}{B:Nat}{w0:World}{U0:Nat->Prop}{β:Place}{H:Heap}{nx:Nat}{w:World}
structure jS(P:Program)(w:World)(U:Nat->Prop)(x:Value)(ys:List (List PV))(sz:Nat)(vs:Nat->Nat->Value):Prop where
 val:∃a c,x=.slice a ys.length c
 el:kG w U sz ys vs
 cells:∀w':World,w'.heap=w.heap->(Builtin.firstCells sz ys.length x).run P w'=.ok (flat ys.length sz vs).toArray w'
 part:∀(w':World) (n:Nat),w'.heap=w.heap->n<=ys.length->(Builtin.firstCells sz n x).run P w'=.ok (flat n sz vs).toArray w'
def pM{a:Nat}{b:List (List PV)}(h:bT a b=true):∀x∈b,x.length=a:=by
 intro x c;simpa using(List.all_eq_true.1 h) x c
def hM{g:World}{b d c n a e:Nat}{f:Array Value}{T:TypeId}{l:Nat×Nat}{h:Nat->Nat->Value}(m:g.heap[b]?=some (.cells f T l))
  (o:∀i j,i<n->j<a->f[d+i*a+j]?=some (h i j)):(Builtin.firstCells a n (.slice (some ⟨b,d,none⟩) e c)).run P g=.ok (flat n a h).toArray g:=by
 refine run_firstCells_some g a n ⟨b,d,none⟩ e c (flat n a h) (bG _ _ _) λk v p=>?_
 obtain⟨q,r,s,rfl⟩:=eT h p;rw[iv];refine bR m ?_;have:=o (k/a) (k%a) r s
 rwa [Nat.add_assoc,ri,Ek]at this
def kY{U:Nat->Prop}{full:Bool}{f:List (List PV)}{x:Value}{l:Nat}(h:bN w U (.slice full f) x)(C:bT l f=true):∃k,jS P w U x f l k:=by
 cases h with
 |none _ a c D=>
  refine⟨λ_ _=>undef,⟨a,c,rfl⟩,⟨az,az,az⟩,λm _=>?_,λm n _ v=>?_⟩
  .cases a<;>simp[Builtin.firstCells,flat,loadCells,loadCellsFrom]
  .obtain rfl:n=0:=by simpa using v
   cases a<;>simp[Builtin.firstCells,flat,loadCells,loadCellsFrom]
 |slice _ _ b o c d p T J k q D K z L e E F G=>
  have s:d=l:=by
   cases f with
   |nil=>simp at q
   |cons y r=>rw[<-e y az,pM C y az]
  subst s;have g:∀i j,i<f.length->j<d->p[o+i*d+j]?=some (k i j):=by
   intro i j t A;have I:=List.getElem?_eq_getElem t;have M:=e _ (List.getElem_mem t);exact E i _ j _ I (List.getElem?_eq_getElem ae)
  exact⟨k,⟨_,_,rfl⟩,⟨F,G,e⟩,λm u=>hM (by rw[u];exact z) g,λm n u v=>hM (by rw[u];exact z) λi j t A=>g i j ae A⟩
def EN{id p c n:Nat}{O:Bool}{f:Nat}{e:List (List PV)}(m:Mem B w0 U0 β H nx w)(I:ag H id=some (.row O f e))(q:p=e.length)(o:c+n<=e.length)
  {x:Value}(d:bg w (Own U0 β H) β H nx (.ref id p c n) x){z:Nat}(Q:bT z ((e.drop c).take n)=true):
  ∃v,jS P w (Own U0 β H) x ((e.drop c).take n) z v:=by
 have g:((e.drop c).take n).length=n:=by simp;omega
 cases d with
 |ref _ _ _ _ _ hid Z h=>
  rcases(h _ _ _ I).2 q o with⟨rfl,_,a,rfl⟩|⟨b,R,a,J,rfl,S⟩
  .simp at o;obtain⟨rfl,rfl⟩:=o;refine⟨λ_ _=>undef,⟨a,0,rfl⟩,⟨az,az,az⟩,λr _=>?_,λr k _ s=>?_⟩
   .cases a<;>simp[Builtin.firstCells,flat,loadCells,loadCellsFrom]
   .obtain rfl:k=0:=by simpa using s
    cases a<;>simp[Builtin.firstCells,flat,loadCells,loadCellsFrom]
  .rcases pO n with rfl|t
   .simp only[List.take_zero];refine⟨λ_ _=>undef,⟨a,_,rfl⟩,⟨az,az,az⟩,λr _=>?_,λr k _ s=>?_⟩
    .cases a<;>simp[Builtin.firstCells,flat,loadCells,loadCellsFrom]
    .obtain rfl:k=0:=by simpa using s
     cases a<;>simp[Builtin.firstCells,flat,loadCells,loadCellsFrom]
   .obtain rfl:=S (.inl t);rcases m.h.aZ id _ I with⟨U,K⟩|⟨b',L,A,T,C,h2,M,h4,h5,D,v,V,W,X⟩
    .rw[J]at K;cases K
    .rw[J]at C;simp only[ay,bY]at C;obtain⟨rfl,rfl⟩:=C;have l:∀i x,((e.drop c).take n)[i]?=some x->e[c+i]?=some x:=by
      intro i x d;rw[List.getElem?_take]at d;split at d
      .rwa [List.getElem?_drop]at d
      .cases d
     have E:f=z:=by
      have d:((e.drop c).take n)[0]?=some (e[c]'ae):=by
       rw[List.getElem?_take,aq t,List.getElem?_drop];exact List.getElem?_eq_getElem ae
      rw[<-pM Q _ (List.mem_of_getElem? d),D _ (List.getElem_mem _)]
     subst E;have u:∀i j,i<n->j<f->A[c*f+i*f+j]?=some (v (c+i) j):=by
      intro i j Y N;have d:e[c+i]?=some (e[c+i]'ae):=List.getElem?_eq_getElem ae;have hl:=D _ (List.mem_of_getElem? d);have:=V (c+i) _ j _ d (List.getElem?_eq_getElem ae)
      rwa [dB]at this
     refine⟨λi j=>v (c+i) j,⟨_,_,by rw[g]⟩,⟨λi x j y d F=>W _ _ _ _ (l i x d) F,λi x j y d F=>X _ _ _ _ (l i x d) F,λx d=>D x (List.mem_of_mem_drop (List.mem_of_mem_take d))⟩,
      λr G=>?_,λr k G s=>?_⟩
     .rw[g];exact hM (by rw[G];exact M) u
     .rw[g]at s;exact hM (by rw[G];exact M) λi j Y N=>u i j ae N
def Bp{u:DV}{d:List (List PV)}{e:List Nat}(m:Mem B w0 U0 β H nx w)(h:jP H u=some (d,e)){x:Value}(b:bg w (Own U0 β H) β H nx u x){g:Nat}(f:bT g d=true):
  ∃j,jS P w (Own U0 β H) x d g j:=by
 unfold jP at h;split at h
 .cases h;cases b with|p _ _ b=>exact kY b f
 .cases h;cases b with|p _ _ b=>cases b with|z a c=>exact kY (.none false a c az) f
 .rename_i id k l n;split at h
  .rename_i r o s q;split at h
   .rename_i i;cases h;exact EN m q i.1 i.2 b f
   .cases h
  .cases h
 .cases h
def jS.src{f g:TypeId}(j:P.underlying f=some (.slice g)){U:Nat->Prop}{x:Value}{b:List (List PV)}{d:Nat}{e:Nat->Nat->Value}(h:jS P w U x b d e):
  Src P d f x b.length (flat b.length d e) w:=by
 obtain⟨a,c,rfl⟩:=h.val;refine⟨.inl ⟨g,j⟩,λ_=>rfl,h.cells w rfl,h.cells w.drew rfl,bG _ _ _,λu l=>?_⟩;obtain⟨k,m,rfl⟩:=List.mem_iff_getElem.1 l;obtain⟨n,i,o,p⟩:=eT e (List.getElem?_eq_getElem m);rw[p];have q:=List.getElem?_eq_getElem i;exact h.el.one _ _ _ _ q (List.getElem?_eq_getElem (by rw[h.el.sz _ (List.getElem_mem i)];exact o))
def kG.append{U:Nat->Prop}{f:Nat}{d g:List (List PV)}{k l:Nat->Nat->Value}(a:kG w U f d k)(b:kG w U f g l):
  kG w U f (d++g) (λi j=>if i<d.length then k i j else l (i-d.length) j):=by
 refine⟨λi x j y c e=>?_,λi x j y c e=>?_,λx c=>?_⟩
 .by_cases h:i<d.length
  .rw[aq h];rw[List.getElem?_append_left h]at c;exact a.one _ _ _ _ c e
  .rw[ak h];rw[List.getElem?_append_right ae]at c;exact b.one _ _ _ _ c e
 .by_cases h:i<d.length
  .rw[aq h];rw[List.getElem?_append_left h]at c;exact a.rep _ _ _ _ c e
  .rw[ak h];rw[List.getElem?_append_right ae]at c;exact b.rep _ _ _ _ c e
 .rcases List.mem_append.1 c with h|h
  .exact a.sz _ h
  .exact b.sz _ h
def sq(z:Array Value)(n:Nat):(Builtin.zeroCells z n).size=n*z.size:=by simp[Builtin.zeroCells]
def wx{id:Nat}(m:Mem B w0 U0 β H nx w){g:Nat}{q:List (List PV)}(s:ag H id=some (.row false g q))(f:List (List PV))(E:q.length<f.length)(t:Nat->Nat->Value)(a:Array Value)(d:Nat)(T:TypeId)(r:World)(l:r.heap=w.heap)(v:Below B w r)
  (F:a.size=d*g)(G:f.length<=d)(z:kG w (Own U0 β H) g f t)(I:∀i x j y,f[i]?=some x->x[j]?=some y->a[i*g+j]?=some (t i j)):
  Good B w0 U0 H nx β w (.ref id f.length 0 f.length) (aC H id (.row false g f)) nx (.slice (some ⟨w.heap.size,0,none⟩) f.length d) (r.alloc (.cells a T)):=by
 have hid:=m.h.lt _ _ s;have n:ag (aC H id (.row false g f)) id=some (.row false g f):=by rw[aA,aq rfl,s];rfl
 have u:qE β H nx w (ic β id (some (w.heap.size,d))) (aC H id (.row false g f)) nx (r.alloc (.cells a T)) id (.row false g f):=by
  refine⟨λk p=>?_,n,rfl,λk p=>sY _ _ _ p,Nat.le_refl _,hid,.inr ⟨_,s,rfl,rfl,ae,λe=>ae⟩,λb o h=>.inl ?_,λb c h=>.inl ?_⟩
  .rw[aA,ak (λe=>p e.symm)]
  .rw[heap_alloc,l,ak (by have:=aO h;omega)];exact h
  .rw[cp]at h;simp at h;omega
 have p:=u.keeps (U0:=U0);have A:=u.cw;have J:Below B w (r.alloc (.cells a T)):=v.trans (iF (by rw[l];exact m.bsize) _);refine⟨_,u.mem m J (.inr ⟨w.heap.size,d,a,T,cp _ _ _,m.bsize,by rw[heap_alloc,l,aq rfl],F,G,z.sz,t,I,z.one,(z.lI p).rep⟩),p,A,?_⟩;refine .ref id _ 0 _ _ hid rfl (λK C D h=>?_) (λK C D h=>by rw[n]at h;cases h);rw[n]at h;simp only[ay,bq.row.injEq]at h;obtain⟨_,rfl,rfl⟩:=h;exact⟨Nat.le_refl _,λ_ _=>.inr ⟨w.heap.size,d,some ⟨w.heap.size,0,none⟩,cp _ _ _,az,λ_=>az⟩⟩
def vw{t A e N:TypeId}{ty:TypeId}{i:TypeInfo}{z:Value}(O:P.underlying t=some (.slice e))(C:P.underlying A=some (.slice N))(Q:P.info? e=some i)
  (R:i.zero=some z){o:Nat}(D:i.size=o)(E:z.cells.size=o){U:Nat->Prop}{b c:List (List PV)}{q r:Nat->Nat->Value}{a x:Value}(J:jS P w U a b o q)
  (K:jS P w U x c o r){l:Option Addr}{g:Nat}(F:a=.slice l b.length g)(m:g<b.length+c.length)
  (L:(b.length+c.length)*i.bytes<=an)(S:b.length+c.length<=an):
  ∃(n:Array Value) (d:Nat),(Builtin.append_ #[t,A] ty #[a,x]).run P w=.ok (.slice (some ⟨w.heap.size,0,none⟩) (b++c).length d) (w.drew.alloc (.cells n e))/\n.size=d*o/\(b++c).length<=d/\
   ∀k y j p,(b++c)[k]?=some y->y[j]?=some p->n[k*o+j]?=some (if k<b.length then q k j else r (k-b.length) j):=by
 subst D;subst F;have s:=run_append_grow_src (P:=P) w t A ty e i z O Q R l b.length g (flat b.length i.size q) (J.cells w.drew rfl) x c.length (flat c.length i.size r) (K.src C) m
  (by unfold an at S;omega) (growslice_fits m (by unfold an at L;exact L))
 have f:b.length+c.length<=grownCap w (b.length+c.length) g e:=by simp[grownCap,Question.cut]
 have T:(b++c).length=b.length+c.length:=az;have u:(flat b.length i.size q++flat c.length i.size r).length=(b.length+c.length)*i.size:=by simp[bG,dB]
 rw[T];refine⟨_,_,s,?_,f,?_⟩
 .rw[AL,sq,E,List.size_toArray,u,<-dB];congr 1;omega
 .intro k y j p M V;have W:y.length=i.size:=(J.el.append K.el).sz y (List.mem_of_getElem? M);have v:j<i.size:=by have:=aN V;omega
  have G:k<b.length+c.length:=by have:=aN M;simpa using this
  have I:k*i.size+j<(b.length+c.length)*i.size:=by
   have:(k+1)*i.size<=(b.length+c.length)*i.size:=di _ G;rw[dB,ir]at this;omega
  rw[Dy (by rw[List.size_toArray,u];exact I),List.getElem?_toArray];by_cases h:k<b.length
  .rw[aq h,List.getElem?_append_left]
   .exact jo q h v
   .rw[bG];have:(k+1)*i.size<=b.length*i.size:=di _ h;rw[dB,ir]at this;omega
  .rw[ak h];have X:k*i.size=b.length*i.size+(k-b.length)*i.size:=by rw[<-dB];congr 1;omega
   rw[List.getElem?_append_right (by rw[bG];omega),bG,show k*i.size+j-b.length*i.size=(k-b.length)*i.size+j from ae];exact jo r ae v
def F3{t n e p:TypeId}{ty:TypeId}{i:TypeInfo}(q:P.underlying t=some (.slice e))(h:P.underlying n=some (.slice p))(r:P.info? e=some i)
  {j:Nat}(l:i.size=j){U:Nat->Prop}{g:List (List PV)}{m:Nat->Nat->Value}{x:Value}(s:jS P w U x g j m){b len d:Nat}{a:Array Value}{T:TypeId}
  (u:w.heap[b]?=some (.cells a T (0,0)))(c:len+g.length<=d)(v:a.size=d*j):
  (Builtin.append_ #[t,n] ty #[.slice (some ⟨b,0,none⟩) len d,x]).run P w=.ok (.slice (some ⟨b,0,none⟩) (len+g.length) d) (cA w b (cI a (len*j) (flat g.length j m)) T (0,0)):=by
 subst l;have f:=s.src h;have o:len*i.size+g.length*i.size<=a.size:=by rw[v,<-dB];exact di _ c
 have k:=kl (P:=P) (b:=b) (off:=len*i.size) (T:=T) (flat g.length i.size m) 0 w a u f.one (by rw[bG];omega);simp only[pY]at k;simp[Builtin.append_,run_underlying q,run_underlying h,sizeOf,typeInfo,r,f.len,c,f.cells,iv,k]
def A6{t j e l:TypeId}{m:TypeId}{i:TypeInfo}(n:P.underlying t=some (.slice e))(d:P.underlying j=some (.slice l))(o:P.info? e=some i)
  {k:Nat}(g:i.size=k){U:Nat->Prop}{p:Nat->Nat->Value}{x:Value}(q:jS P w U x [] k p)(a:Option Addr){b c:Nat}(h:b<=c):
  (Builtin.append_ #[t,j] m #[.slice a b c,x]).run P w=.ok (.slice a b c) w:=by
 subst g;have f:=q.src d;have r:(Builtin.firstCells i.size 0 x).run P w=.ok #[] w:=by simpa[flat]using f.cells
 cases a<;>simp[Builtin.append_,run_underlying n,run_underlying d,sizeOf,typeInfo,o,f.len,h,r,storeCells]
def bN.my{U:Nat->Prop}{d:Bool}{e:List (List PV)}{x:Value}(h:bN w U (.slice d e) x):∃a c,x=.slice a e.length c/\e.length<=c/\(d=true->c=e.length):=by
 cases h with
 |none _ a c f=>exact⟨a,c,rfl,az,λh=>by simpa using f h⟩
 |slice _ _ b g c l i T m n j f k=>exact⟨_,c,rfl,f,k⟩
def mq{id:Nat}{aZ:bq}(h:ag H id=some aZ):ig H (aC H id aZ):=by
 refine⟨λk b a=>?_⟩;rw[aA]at a;split at a
 .rename_i e;subst e;rw[h]at a;simp at a;subst a;exact⟨_,h,.inl rfl⟩
 .exact⟨b,a,.inl rfl⟩
def S0(o:Obj):Prop:=∃a T b,o=.cells a T b
def ny(w a:World):Prop:=∀(k:Nat) (o:Obj),¬S0 o->w.heap[k]?=some o->a.heap[k]?=some o
def ny.refl(w:World):ny w w:=λ_ _ _ h=>h
def Dl{w:World}{b:Nat}{c a:Array Value}{T:TypeId}{d:Nat×Nat}(f:w.heap[b]?=some (.cells c T d)):ny w (cA w b a T d):=by
 intro k o g h;rw[dO];by_cases e:b=k
 .subst e;rw[f]at h;cases h;exact absurd ⟨_,_,_,rfl⟩ g
 .rw[ak (λx=>e x.1)];exact h
def ur(w:World)(o:Obj):ny w (w.drew.alloc o):=by
 intro k a _ h;rw[heap_alloc,ak (by have:=aO h;show¬k=w.heap.size;omega)];exact h
def E9(w:World)(o:Obj):ny w (w.alloc o):=by
 intro k a _ h;rw[heap_alloc,ak (by have:=aO h;omega)];exact h
def Lr{t t2 ty:TypeId}{bytes sz:Nat}(l:jX P t t2 bytes sz=true)(m:Mem B w0 U0 β H nx w){v u:DV}{a x:Value}(ha:bg w (Own U0 β H) β H nx v a)(hx:bg w (Own U0 β H) β H nx u x)
  {A:List (List PV)}{xu:List Nat}(xv:jP H u=some (A,xu))(xw:bT sz A=true){r:DV}{H':Heap}{xd:Nat}
  (h:jq bytes sz A v H nx=some (r,H',xd)):
  ∃y w',(Builtin.append_ #[t,t2] ty #[a,x]).run P w=.ok y w'/\Good B w0 U0 H nx β w r H' xd y w'/\ny w w':=by
 unfold jX at l;cases C:bZ P t with
 |none=>rw[C]at l;cases l
 |some e=>
 cases o:bZ P t2 with
 |none=>rw[C,o]at l;cases l
 |some e2=>
 rw[C,o]at l;simp only at l;have ht:P.underlying t=some (.slice e):=by
  unfold bZ at C;split at C
  .rename_i hu;cases C;exact hu
  .cases C
 have G:P.underlying t2=some (.slice e2):=by
  unfold bZ at o;split at o
  .rename_i hu;cases o;exact hu
  .cases o
 cases L:P.info? e with
 |none=>rw[L]at l;cases l
 |some i=>
 rw[L]at l;simp only[aL,cH,df]at l;obtain⟨⟨⟨⟨y0,I⟩,D⟩,yc⟩,yh⟩:=l;cases hz:i.zero with
 |none=>rw[hz]at D;cases D
 |some z=>
 rw[hz]at D;simp only[cH]at D;obtain⟨us,M⟩:=Bp (P:=P) m xv hx xw;subst y0;unfold jq at h;have y1:(∃N f,v=.p (.slice N f))\/(∃id x3 x4 n,v=.ref id x3 x4 n):=by
  cases v with
  |p q=>cases q with
   |slice N f=>exact .inl ⟨_,_,rfl⟩
   |_=>cases h
  |ref id x3 x4 n=>exact .inr ⟨_,_,_,_,rfl⟩
  |_=>cases h
 rcases y1 with⟨N,f,rfl⟩|⟨id,x3,x4,n,rfl⟩
 .simp only at h;cases ha with|p _ _ hp=>
  obtain⟨U,c,rfl,y2,O⟩:=hp.my;have E:A=[]->(Builtin.append_ #[t,t2] ty #[.slice U f.length c,x]).run P w=.ok (.slice U f.length c) w:=by
   intro hy;subst hy;exact A6 ht G L I M U y2
  split at h
  .rename_i hc;simp only[aL,df]at hc;obtain⟨⟨⟨hf,y3⟩,V⟩,W⟩:=hc;split at h
   .rename_i Z;simp only[aL,List.isEmpty_iff]at Z;cases h;exact⟨_,_,E Z.1,bm m (.p _ _ hp),ny.refl _⟩
   .rename_i Z;cases h;obtain⟨vs,sa⟩:=kY (P:=P) hp y3;by_cases J:A=[]
    .have xg:f=[]:=by
      simp only[aL,List.isEmpty_iff,kD,not_and,M7]at Z;simpa using Z J
     subst J;subst xg;have:c=0:=O hf;subst this;exact⟨_,_,E rfl,Hb m sz U,ny.refl _⟩
    .have Q:0<A.length:=List.length_pos_iff.2 J;obtain⟨K,s,g,h1,h2,X⟩:=vw (ty:=ty) ht G L hz I D sa M rfl (by rw[O hf];omega) V W;have hg:=Kq m sz (f++A) _ K s e w.drew rfl (eK _ _) h1 h2 (sa.el.append M.el) X;rw[List.length_append]at hg g;exact⟨_,_,g,hg,ur _ _⟩
  .split at h
   .rename_i Z;cases h;exact⟨_,_,E (by simpa using Z),bm m (.p _ _ hp),ny.refl _⟩
   .cases h
 .simp only at h;split at h
  .rename_i d f S;split at h
   .rename_i hc;obtain⟨x2,rfl,rfl,rfl,V,W⟩:=hc;cases h;have R:=ha;cases ha with|ref _ _ _ _ _ hid y4 xi=>
    have yf:(f.drop 0).take f.length=f:=az;rcases(xi _ _ _ S).2 x2 ae with⟨rfl,yj,U,rfl⟩|⟨b,x7,U,hb,rfl,y5⟩
    .by_cases J:A=[]
     .subst J;refine⟨_,_,A6 ht G L I M U (Nat.le_refl 0),nZ m (mq (by simpa using S)) ?_,ny.refl _⟩;refine R.cw ((mq S).keeps w) ((mq S).cw (Nat.le_refl _))|>λh=>?_
      subst x2;simpa using h
     .have Q:0<A.length:=List.length_pos_iff.2 J;obtain⟨vs,sa⟩:∃vs,jS P w (Own U0 β H) (.slice U 0 0) [] d vs:=kY (full:=false) (.none false U 0 az) rfl;obtain⟨K,s,g,h1,h2,X⟩:=vw (ty:=ty) ht G L hz I D sa M rfl (by simpa using Q) V W;have hg:=wx m S ([]++A) (by simpa using Q) _ K s e w.drew rfl (eK _ _) h1 h2 (sa.el.append M.el) X;rw[List.length_append]at hg g;exact⟨_,_,g,hg,ur _ _⟩
    .rcases m.h.aZ id _ S with⟨xg,hn⟩|⟨b',s,K,T,h1,h2,X,h4,h5,h6,vs,h7,h8,h9⟩
     .rw[hb]at hn;cases hn
     .rw[hb]at h1;simp only[ay,bY]at h1;obtain⟨rfl,rfl⟩:=h1;obtain rfl:=y5 (.inr rfl);simp only[wT,lQ]at R⊢;have x8:kG w (Own U0 β H) d f vs:=⟨h8,h9,h6⟩;have x9:∀i j,i<f.length->j<d->K[0+i*d+j]?=some (vs i j):=by
       intro i j L hj;rw[Nat.zero_add];have hx:=List.getElem?_eq_getElem L;have hl:=h6 _ (List.getElem_mem L);exact h7 i _ j _ hx (List.getElem?_eq_getElem ae)
      have sa:jS P w (Own U0 β H) (.slice (some ⟨b,0,none⟩) f.length x7) f d vs:=
       ⟨⟨_,_,rfl⟩,x8,λw' hw=>hM (by rw[hw];exact X) x9,λw' n hw hn=>hM (by rw[hw];exact X) λi j L hj=>x9 i j ae hj⟩
      by_cases F:f.length+A.length<=x7
      .refine⟨_,_,F3 ht G L I M X F h4,?_,Dl X⟩;have xj:f.length*d+(flat A.length d us).length<=K.size:=by rw[bG,h4,<-dB];exact di _ F
       refine lv m S hb h2 X (by rw[bX,h4]) (by rw[List.length_append];exact F) az _ (x8.append M.el) (λk y j p hk hj=>?_) _ _ (λH' ya Z hk=>?_)
       .have yn:y.length=d:=(x8.append M.el).sz y (List.mem_of_getElem? hk);have xk:j<d:=by have:=aN hj;omega
        have yo:k<f.length+A.length:=by have:=aN hk;simpa using this
        rw[fF _ _ _ _ xj,bG];by_cases Y:k<f.length
        .have:(k+1)*d<=f.length*d:=di _ Y;rw[dB,ir]at this;rw[ak ae,aq Y];have:=x9 k j Y xk
         rwa [Nat.zero_add]at this
        .have e1:k*d=f.length*d+(k-f.length)*d:=by rw[<-dB];congr 1;omega
         have e2:(k-f.length+1)*d<=A.length*d:=di _ ae;rw[dB,ir]at e2;rw[aq ⟨ae,ae⟩,ak Y,show k*d+j-f.length*d=(k-f.length)*d+j from ae];exact jo us ae xk
       .subst ya;refine .ref id _ 0 _ _ hid rfl (λfz xl yb h=>?_) (λfz xl yb h=>by rw[aA,aq rfl,S]at h;cases h);rw[aA,aq rfl,S]at h;simp only[Option.map_some,ay,bq.row.injEq]at h;obtain⟨_,rfl,rfl⟩:=h;rw[List.length_append];exact⟨Nat.le_refl _,λ_ _=>.inr ⟨b,x7,some ⟨b,0,none⟩,hb,az,λ_=>az⟩⟩
      .obtain⟨xm,s,g,g1,g2,g3⟩:=vw (ty:=ty) ht G L hz I D sa M rfl ae V W;have hg:=wx m S (f++A) (by rw[List.length_append];omega) _ xm s e w.drew rfl (eK _ _) g1 g2 (sa.el.append M.el) g3;rw[List.length_append]at hg g;exact⟨_,_,g,hg,ur _ _⟩
   .cases h
  .cases h
def DN{t i ty:TypeId}{bytes d:Nat}(e:jX P t i bytes d=true)(m:Mem B w0 U0 β H nx w){v u:DV}{a x:Value}(k:bg w (Own U0 β H) β H nx v a)(l:bg w (Own U0 β H) β H nx u x)
  {ys:List (List PV)}{ids:List Nat}(f:jP H u=some (ys,ids))(g:bT d ys=true){r:DV}{j:Heap}{b:Nat}
  (h:jq bytes d ys v H nx=some (r,j,b)):
  ∃y c,(Builtin.append_ #[t,i] ty #[a,x]).run P w=.ok y c/\Good B w0 U0 H nx β w r j b y c:=by
 obtain⟨y,c,n,o,_⟩:=Lr (ty:=ty) e m k l f g h;exact⟨y,c,n,o⟩
def BG{id:Nat}(m:Mem B w0 U0 β H nx w){g:Nat}{q:List (List DV)}(t:ag H id=some (.aV false g q))(f:List (List DV))(E:q.length<f.length)(v:Nat->Nat->Value)(a:Array Value)(d:Nat)(T:TypeId)(r:World)(l:r.heap=w.heap)(z:Below B w r)
  (F:a.size=d*g)(G:f.length<=d)(A:iH w (Own U0 β H) β H nx g f v)(I:∀i x j y,f[i]?=some x->x[j]?=some y->a[i*g+j]?=some (v i j)):
  Good B w0 U0 H nx β w (.ref id f.length 0 f.length) (aC H id (.aV false g f)) nx (.slice (some ⟨w.heap.size,0,none⟩) f.length d) (r.alloc (.cells a T)):=by
 have hid:=m.h.lt _ _ t;have n:ag (aC H id (.aV false g f)) id=some (.aV false g f):=by rw[aA,aq rfl,t];rfl
 have u:qE β H nx w (ic β id (some (w.heap.size,d))) (aC H id (.aV false g f)) nx (r.alloc (.cells a T)) id (.aV false g f):=by
  refine⟨λk p=>?_,n,rfl,λk p=>sY _ _ _ p,Nat.le_refl _,hid,.inr ⟨_,t,rfl,rfl,ae,λe=>ae⟩,λb o h=>.inl ?_,λb c h=>.inl ?_⟩
  .rw[aA,ak (λe=>p e.symm)]
  .rw[heap_alloc,l,ak (by have:=aO h;omega)];exact h
  .rw[cp]at h;simp at h;omega
 have p:=u.keeps (U0:=U0);have s:=u.cw;have J:Below B w (r.alloc (.cells a T)):=z.trans (iF (by rw[l];exact m.bsize) _);refine⟨_,u.mem m J (.inr ⟨w.heap.size,d,a,T,cp _ _ _,m.bsize,by rw[heap_alloc,l,aq rfl],F,G,A.sz,v,I,A.one,(A.cw p s).rep⟩),p,s,?_⟩;refine .ref id _ 0 _ _ hid rfl (λK C D h=>by rw[n]at h;cases h) (λK C D h=>?_);rw[n]at h;simp only[ay,bq.aV.injEq]at h;obtain⟨_,rfl,rfl⟩:=h;exact⟨Nat.le_refl _,λ_ _=>.inr ⟨w.heap.size,d,some ⟨w.heap.size,0,none⟩,cp _ _ _,az,λ_=>az⟩⟩
def sX(a:List (List DV)):List (List PV):=a.map λx=>x.map λ_=>.undef
def gx(a:List (List DV)):(sX a).length=a.length:=by simp[sX]
def DH{a:List (List DV)}{i:Nat}{y:List PV}(h:(sX a)[i]?=some y):∃x,a[i]?=some x/\y=x.map λ_=>.undef:=by
 simp only[sX,List.getElem?_map]at h;cases b:a[i]? with
 |none=>rw[b]at h;cases h
 |some x=>rw[b]at h;simp only[Option.map_some,ay]at h;exact⟨x,rfl,h.symm⟩
def M4{U:Nat->Prop}{g:Nat}{f:List (List DV)}{h:Nat->Nat->Value}(k:∀i x j y,f[i]?=some x->x[j]?=some y->(h i j).oneCell'=true)(l:∀x∈f,x.length=g):kG w U g (sX f) h:=by
 refine⟨λi y j q b a=>?_,λi y j q b a=>?_,λy b=>?_⟩
 .obtain⟨x,e,rfl⟩:=DH b;rw[List.getElem?_map]at a;cases c:x[j]? with
  |none=>rw[c]at a;cases a
  |some d=>exact k i x j d e c
 .obtain⟨x,e,rfl⟩:=DH b;rw[List.getElem?_map]at a;cases c:x[j]? with
  |none=>rw[c]at a;cases a
  |some d=>rw[c]at a;simp only[Option.map_some,ay]at a;subst a;exact .undef _
 .obtain⟨i,m⟩:=List.getElem?_of_mem b;obtain⟨x,e,rfl⟩:=DH m;rw[List.length_map];exact l x (List.mem_of_getElem? e)
def tX{id:Nat}{G:Bool}{f:Nat}{e:List (List DV)}(m:Mem B w0 U0 β H nx w)(D:ag H id=some (.aV G f e)){x:Value}(s:bg w (Own U0 β H) β H nx (.ref id e.length 0 e.length) x):
  ∃l,jS P w (Own U0 β H) x (sX e) f l/\iH w (Own U0 β H) β H nx f e l/\
   ((e=[]/\β id=none/\∃I,x=.slice I 0 0)\/∃b d c T,β id=some (b,d)/\B<=b/\w.heap[b]?=some (.cells c T (0,0))/\c.size=d*f/\e.length<=d/\x=.slice (some ⟨b,0,none⟩) e.length d/\∀i j,i<e.length->j<f->c[i*f+j]?=some (l i j)):=by
 cases s with|ref _ _ _ _ _ hid S _ h=>
 rcases(h _ _ _ D).2 rfl ae with⟨rfl,t,a,rfl⟩|⟨b,d,a,u,rfl,J⟩
 .refine⟨λ_ _=>undef,⟨⟨a,0,rfl⟩,⟨by simp[sX],by simp[sX],by simp[sX]⟩,λv _=>?_,λv k _ K=>?_⟩,⟨az,az,az⟩,.inl ⟨rfl,t,a,rfl⟩⟩
  .cases a<;>simp[Builtin.firstCells,flat,loadCells,loadCellsFrom,sX]
  .obtain rfl:k=0:=by simpa[sX]using K
   cases a<;>simp[Builtin.firstCells,flat,loadCells,loadCellsFrom]
 .obtain rfl:=J (.inr rfl);simp only[wT,lQ];rcases m.h.aZ id _ D with⟨L,q⟩|⟨U,E,c,T,y,M,z,N,O,A,l,Q,F,R⟩
  .rw[u]at q;cases q
  .rw[u]at y;simp only[ay,bY]at y;obtain⟨rfl,rfl⟩:=y;have o:∀i j,i<e.length->j<f->c[i*f+j]?=some (l i j):=by
    intro i j p r;have s:=List.getElem?_eq_getElem p;have V:=A _ (List.getElem_mem p);exact Q i _ j _ s (List.getElem?_eq_getElem ae)
   have g:∀i j,i<e.length->j<f->c[0+i*f+j]?=some (l i j):=λi j p r=>by rw[Nat.zero_add];exact o i j p r
   refine⟨l,⟨⟨_,_,by rw[gx]⟩,M4 F A,λv C=>?_,λv n C q=>?_⟩,⟨F,R,A⟩,.inr ⟨b,d,c,T,u,M,z,N,O,rfl,o⟩⟩
   .rw[gx];exact hM (by rw[C];exact z) g
   .rw[gx]at q;exact hM (by rw[C];exact z) λi j p r=>g i j ae r
def iH.append{U:Nat->Prop}{f:Nat}{d g:List (List DV)}{k l:Nat->Nat->Value}(a:iH w U β H nx f d k)(b:iH w U β H nx f g l):
  iH w U β H nx f (d++g) (λi j=>if i<d.length then k i j else l (i-d.length) j):=by
 refine⟨λi x j y c e=>?_,λi x j y c e=>?_,λx c=>?_⟩
 .by_cases h:i<d.length
  .rw[aq h];rw[List.getElem?_append_left h]at c;exact a.one _ _ _ _ c e
  .rw[ak h];rw[List.getElem?_append_right ae]at c;exact b.one _ _ _ _ c e
 .by_cases h:i<d.length
  .rw[aq h];rw[List.getElem?_append_left h]at c;exact a.rep _ _ _ _ c e
  .rw[ak h];rw[List.getElem?_append_right ae]at c;exact b.rep _ _ _ _ c e
 .rcases List.mem_append.1 c with h|h
  .exact a.sz _ h
  .exact b.sz _ h
def xE{t t2 ty e e2:TypeId}{i:TypeInfo}{z:Value}(ht:P.underlying t=some (.slice e))(D:P.underlying t2=some (.slice e2))(hi:P.info? e=some i)(hz:i.zero=some z){d:Nat}(E:i.size=d)(x4:z.cells.size=d)
  (m:Mem B w0 U0 β H nx w){id:Nat}{f:List (List DV)}(F:ag H id=some (.aV false d f)){a x:Value}(ha:bg w (Own U0 β H) β H nx (.ref id f.length 0 f.length) a)
  {o:List (List PV)}{g:List (List DV)}{K:Nat->Nat->Value}(W:jS P w (Own U0 β H) x o d K)(X:iH w (Own U0 β H) β H nx d g K)(G:o.length=g.length)
  (x5:(f.length+g.length)*i.bytes<=an)(x6:f.length+g.length<=an):
  ∃y L,(Builtin.append_ #[t,t2] ty #[a,x]).run P w=.ok y L/\Good B w0 U0 H nx β w (.ref id (f.length+g.length) 0 (f.length+g.length)) (aC H id (.aV false d (f++g))) nx y L:=by
 have I:=ha;obtain⟨vs,sa,Y,s⟩:=tX (P:=P) m F ha;have hid:id<nx:=m.h.lt _ _ F;have conv:∀{r:Array Value},(∀k y j p,(sX f++o)[k]?=some y->y[j]?=some p->r[k*d+j]?=some (if k<(sX f).length then vs k j else K (k-(sX f).length) j))->
   ∀i x j y,(f++g)[i]?=some x->x[j]?=some y->r[i*d+j]?=some (if i<f.length then vs i j else K (i-f.length) j):=by
  intro r Z i x j y hx hy;have J:j<d:=by
   have:=aN hy;have xr:x.length=d:=by
    rcases List.mem_append.1 (List.mem_of_getElem? hx)with h|h
    .exact Y.sz x h
    .exact X.sz x h
   omega
  have xt:i<f.length+g.length:=by have:=aN hx;simpa using this
  have e1:∃q:List PV,(sX f++o)[i]?=some q/\q.length=d:=by
   have M:i<(sX f++o).length:=by rw[List.length_append,gx];omega
   refine⟨_,List.getElem?_eq_getElem M,?_⟩;rcases List.mem_append.1 (List.getElem_mem M)with h|h
   .exact sa.el.sz _ h
   .exact W.el.sz _ h
  obtain⟨q,hq,xv⟩:=e1;have:=Z i q j _ hq (List.getElem?_eq_getElem ae)
  rwa [gx]at this
 by_cases N:g=[]
 .subst N;have x8:o=[]:=List.eq_nil_of_length_eq_zero G;subst x8;have l1:=mq (H:=H) F;obtain⟨ad,c,A⟩:=sa.val;have O:(sX f).length<=c:=by
   rcases s with⟨rfl,_,xw,e⟩|⟨b,u,r,T,_,_,_,_,xx,e,_⟩
   .simp[sX]
   .rw[A]at e;injection e with _ _ e3;rw[gx];omega
  subst A;refine⟨_,_,A6 ht D hi E W ad O,nZ m (by simpa using l1) ?_⟩;have:=I.cw (l1.keeps w) (l1.cw (Nat.le_refl _));simpa using this
 .have Q:0<g.length:=List.length_pos_iff.2 N;have grow:∀(C:Option Addr) (c:Nat),a=.slice C (sX f).length c->c<f.length+g.length->∃y L,(Builtin.append_ #[t,t2] ty #[a,x]).run P w=.ok y L/\Good B w0 U0 H nx β w (.ref id (f.length+g.length) 0 (f.length+g.length)) (aC H id (.aV false d (f++g))) nx y L:=by
   intro C c xb xc;obtain⟨R,S,l,g1,g2,g3⟩:=vw (ty:=ty) ht D hi hz E x4 sa W xb (by rw[gx,G];exact xc) (by rw[gx,G];exact x5) (by rw[gx,G];exact x6);rw[List.length_append,gx,G]at g2 l;have Z:=BG m F (f++g) (by rw[List.length_append];omega) _ R S e w.drew rfl (eK _ _) g1 (by rw[List.length_append];exact g2) (Y.append X) (conv g3);rw[List.length_append]at Z;exact⟨_,_,l,Z⟩
  rcases s with⟨rfl,y0,ad,rfl⟩|⟨b,u,r,T,hb,h2,h3,h4,h5,rfl,xe⟩
  .exact grow ad 0 rfl (by simpa using Q)
  .by_cases n:f.length+g.length<=u
   .have l:=F3 (ty:=ty) ht D hi E W h3 (len:=f.length) (by rw[G];exact n) h4;rw[G]at l;refine⟨_,_,l,?_⟩;have U:f.length*d+(flat g.length d K).length<=r.size:=by rw[bG,h4,<-dB];exact di _ n
    refine rq m F hb h2 h3 (by rw[bX,h4]) (by rw[List.length_append];exact n) az _ (Y.append X) (λk y j p hk hj=>?_) _ _ (λH' xg he hk=>?_)
    .have y3:y.length=d:=(Y.append X).sz y (List.mem_of_getElem? hk);have J:j<d:=by have:=aN hj;omega
     have y4:k<f.length+g.length:=by have:=aN hk;simpa using this
     rw[fF _ _ _ _ U,bG];by_cases v:k<f.length
     .have:(k+1)*d<=f.length*d:=di _ v;rw[dB,ir]at this;rw[ak ae,aq v];exact xe k j v J
     .have e1:k*d=f.length*d+(k-f.length)*d:=by rw[<-dB];congr 1;omega
      have e2:(k-f.length+1)*d<=g.length*d:=di _ ae;rw[dB,ir]at e2;rw[aq ⟨ae,ae⟩,ak v,show k*d+j-f.length*d=(k-f.length)*d+j from ae];exact jo K ae J
    .subst xg;refine .ref id _ 0 _ _ hid rfl (λfz V xh h=>by rw[aA,aq rfl,F]at h;cases h) (λfz V xh h=>?_);rw[aA,aq rfl,F]at h;simp only[Option.map_some,ay,bq.aV.injEq]at h;obtain⟨_,rfl,rfl⟩:=h;rw[List.length_append];exact⟨Nat.le_refl _,λ_ _=>.inr ⟨b,u,some ⟨b,0,none⟩,hb,az,λ_=>az⟩⟩
   .exact grow _ u (by rw[gx]) ae
def Hj{t j L:TypeId}{bytes E:Nat}(b:jX P t j bytes E=true)(m:Mem B w0 U0 β H nx w){v u:DV}{a x:Value}(M:bg w (Own U0 β H) β H nx v a)(N:bg w (Own U0 β H) β H nx u x)
  {r:DV}{F:Heap}{g:Nat}(h:sh bytes E v u H nx=some (r,F,g)):
  ∃y G,(Builtin.append_ #[t,j] L #[a,x]).run P w=.ok y G/\Good B w0 U0 H nx β w r F g y G:=by
 unfold jX at b;cases d:bZ P t with
 |none=>rw[d]at b;cases b
 |some e=>
 cases c:bZ P j with
 |none=>rw[d,c]at b;cases b
 |some O=>
 rw[d,c]at b;simp only at b;have Q:P.underlying t=some (.slice e):=by
  unfold bZ at d;split at d
  .rename_i k;cases d;exact k
  .cases d
 have l:P.underlying j=some (.slice O):=by
  unfold bZ at c;split at c
  .rename_i k;cases c;exact k
  .cases c
 cases o:P.info? e with
 |none=>rw[o]at b;cases b
 |some i=>
 rw[o]at b;simp only[aL,cH,df]at b;obtain⟨⟨⟨⟨p,q⟩,f⟩,I⟩,R⟩:=b;cases s:i.zero with
 |none=>rw[s]at f;cases f
 |some z=>
 rw[s]at f;simp only[cH]at f;subst p;unfold sh at h;split at h
 case h_2=>cases h
 rename_i id S T n U J K n2;split at h
 case h_2=>cases h
 rename_i V xs W X ys Y A;split at h
 case isFalse=>cases h
 rename_i Z;obtain⟨rfl,rfl,rfl,rfl,rfl,rfl,rfl,rfl,x0,C,D⟩:=Z;cases h;obtain⟨us,sx,ey,_⟩:=tX (P:=P) m A N;exact xE Q l o s q f m Y M sx ey (gx _) C D
end
end
end Go.Dv
