/- Lemmas for the law of this claim. -/
import Derived.Test.YtcphhjkcgikdgaaGreatDoorP04
set_option linter.all false
namespace Go.Dv
section
open Go.RowKit
def flat(n a:Nat)(b:Nat->Nat->Value):List Value:=(List.range (n*a)).map λk=>b (k/a) (k%a)
def bJ(n a:Nat)(b:Nat->Nat->Value):(flat n a b).length=n*a:=by simp[flat]
def iW{n a:Nat}(c:Nat->Nat->Value){i j:Nat}(e:i<n)(d:j<a):(flat n a c)[i*a+j]?=some (c i j):=by
 have b:i*a+j<n*a:=by
  have:(i+1)*a<=n*a:=c7 _ e;rw[dq,gX]at this;omega
 have f:(i*a+j)/a=i:=by rw[qy,Nat.mul_add_div ae,Nat.div_eq_of_lt d,pO]
 have g:(i*a+j)%a=j:=by rw[qy,Nat.mul_add_mod,Nat.mod_eq_of_lt d]
 simp[flat,b,f,g]
def eI{n a:Nat}(d:Nat->Nat->Value){k:Nat}{v:Value}(h:(flat n a d)[k]?=some v):0<a/\k/a<n/\k%a<a/\v=d (k/a) (k%a):=by
 have c:=aL h;rw[bJ]at c;have b:0<a:=by
  rcases tK a with rfl|e
  .simp at c
  .exact e
 refine⟨b,Nat.div_lt_of_lt_mul (by rw[qy];exact c),Nat.mod_lt _ b,?_⟩;simp[flat,c]at h;exact h.symm
section
variable{P:Program}{B:Nat}{w0:World}{U0:Nat->Prop}{β:Place}{H:Heap}{nx:Nat}{w:World}
structure jG(P:Program)(w:World)(U:Nat->Prop)(x:Value)(ys:List (List PV))(sz:Nat)(vs:Nat->Nat->Value):Prop where
 val:∃a c,x=.slice a ys.length c
 el:kc w U sz ys vs
 cells:∀w':World,w'.heap=w.heap->(Builtin.firstCells sz ys.length x).run P w'=.ok (flat ys.length sz vs).toArray w'
 part:∀(w':World) (n:Nat),w'.heap=w.heap->n<=ys.length->(Builtin.firstCells sz n x).run P w'=.ok (flat n sz vs).toArray w'
def pk{a:Nat}{b:List (List PV)}(h:bV a b=true):∀x∈b,x.length=a:=by
 intro x c;simpa using(List.all_eq_true.1 h) x c
def gI{g:World}{b d c n a e:Nat}{f:Array Value}{T:TypeId}{l:Nat×Nat}{h:Nat->Nat->Value}(m:g.heap[b]?=some (.cells f T l))
  (o:∀i j,i<n->j<a->f[d+i*a+j]?=some (h i j)):(Builtin.firstCells a n (.slice (some ⟨b,d,none⟩) e c)).run P g=.ok (flat n a h).toArray g:=by
 refine run_firstCells_some g a n ⟨b,d,none⟩ e c (flat n a h) (bJ _ _ _) λk v p=>?_
 obtain⟨q,r,s,rfl⟩:=eI h p;rw[hM];refine bT m ?_;have:=o (k/a) (k%a) r s
 rwa [Nat.add_assoc,qy,CI]at this
def kI{U:Nat->Prop}{full:Bool}{f:List (List PV)}{x:Value}{l:Nat}(h:bP w U (.slice full f) x)(C:bV l f=true):∃k,jG P w U x f l k:=by
 cases h with
 |none _ a c D=>
  refine⟨λ_ _=>undef,⟨a,c,rfl⟩,⟨aB,aB,aB⟩,λm _=>?_,λm n _ v=>?_⟩
  .cases a<;>simp[Builtin.firstCells,flat,loadCells,loadCellsFrom]
  .obtain rfl:n=0:=by simpa using v
   cases a<;>simp[Builtin.firstCells,flat,loadCells,loadCellsFrom]
 |slice _ _ b o c d p T J k q D K z L e E F G=>
  have s:d=l:=by
   cases f with
   |nil=>simp at q
   |cons y r=>rw[<-e y aB,pk C y aB]
  subst s;have g:∀i j,i<f.length->j<d->p[o+i*d+j]?=some (k i j):=by
   intro i j t A;have I:=List.getElem?_eq_getElem t;have M:=e _ (List.getElem_mem t);exact E i _ j _ I (List.getElem?_eq_getElem ae)
  exact⟨k,⟨_,_,rfl⟩,⟨F,G,e⟩,λm u=>gI (by rw[u];exact z) g,λm n u v=>gI (by rw[u];exact z) λi j t A=>g i j ae A⟩
def EG{id p c n:Nat}{O:Bool}{f:Nat}{e:List (List PV)}(m:Mem B w0 U0 β H nx w)(I:ah H id=some (.row O f e))(q:p=e.length)(o:c+n<=e.length)
  {x:Value}(d:bj w (Own U0 β H) β H nx (.ref id p c n) x){z:Nat}(Q:bV z ((e.drop c).take n)=true):
  ∃v,jG P w (Own U0 β H) x ((e.drop c).take n) z v:=by
 have g:((e.drop c).take n).length=n:=by simp;omega
 cases d with
 |ref _ _ _ _ _ hid Z h=>
  rcases(h _ _ _ I).2 q o with⟨rfl,_,a,rfl⟩|⟨b,R,a,J,rfl,S⟩
  .simp at o;obtain⟨rfl,rfl⟩:=o;refine⟨λ_ _=>undef,⟨a,0,rfl⟩,⟨aB,aB,aB⟩,λr _=>?_,λr k _ s=>?_⟩
   .cases a<;>simp[Builtin.firstCells,flat,loadCells,loadCellsFrom]
   .obtain rfl:k=0:=by simpa using s
    cases a<;>simp[Builtin.firstCells,flat,loadCells,loadCellsFrom]
  .rcases tK n with rfl|t
   .simp only[List.take_zero];refine⟨λ_ _=>undef,⟨a,_,rfl⟩,⟨aB,aB,aB⟩,λr _=>?_,λr k _ s=>?_⟩
    .cases a<;>simp[Builtin.firstCells,flat,loadCells,loadCellsFrom]
    .obtain rfl:k=0:=by simpa using s
     cases a<;>simp[Builtin.firstCells,flat,loadCells,loadCellsFrom]
   .obtain rfl:=S (.inl t);rcases m.h.aY id _ I with⟨U,K⟩|⟨b',L,A,T,C,h2,M,h4,h5,D,v,V,W,X⟩
    .rw[J]at K;cases K
    .rw[J]at C;simp only[aw,bQ]at C;obtain⟨rfl,rfl⟩:=C;have l:∀i x,((e.drop c).take n)[i]?=some x->e[c+i]?=some x:=by
      intro i x d;rw[List.getElem?_take]at d;split at d
      .rwa [List.getElem?_drop]at d
      .cases d
     have E:f=z:=by
      have d:((e.drop c).take n)[0]?=some (e[c]'ae):=by
       rw[List.getElem?_take,aq t,List.getElem?_drop];exact List.getElem?_eq_getElem ae
      rw[<-pk Q _ (List.mem_of_getElem? d),D _ (List.getElem_mem _)]
     subst E;have u:∀i j,i<n->j<f->A[c*f+i*f+j]?=some (v (c+i) j):=by
      intro i j Y N;have d:e[c+i]?=some (e[c+i]'ae):=List.getElem?_eq_getElem ae;have hl:=D _ (List.mem_of_getElem? d);have:=V (c+i) _ j _ d (List.getElem?_eq_getElem ae)
      rwa [dq]at this
     refine⟨λi j=>v (c+i) j,⟨_,_,by rw[g]⟩,⟨λi x j y d F=>W _ _ _ _ (l i x d) F,λi x j y d F=>X _ _ _ _ (l i x d) F,λx d=>D x (List.mem_of_mem_drop (List.mem_of_mem_take d))⟩,
      λr G=>?_,λr k G s=>?_⟩
     .rw[g];exact gI (by rw[G];exact M) u
     .rw[g]at s;exact gI (by rw[G];exact M) λi j Y N=>u i j ae N
def Bk{u:DV}{d:List (List PV)}{e:List Nat}(m:Mem B w0 U0 β H nx w)(h:jD H u=some (d,e)){x:Value}(b:bj w (Own U0 β H) β H nx u x){g:Nat}(f:bV g d=true):
  ∃j,jG P w (Own U0 β H) x d g j:=by
 unfold jD at h;split at h
 .cases h;cases b with|p _ _ b=>exact kI b f
 .cases h;cases b with|p _ _ b=>cases b with|z a c=>exact kI (.none false a c aB) f
 .rename_i id k l n;split at h
  .rename_i r o s q;split at h
   .rename_i i;cases h;exact EG m q i.1 i.2 b f
   .cases h
  .cases h
 .cases h
def jG.src{f g:TypeId}(j:P.underlying f=some (.slice g)){U:Nat->Prop}{x:Value}{b:List (List PV)}{d:Nat}{e:Nat->Nat->Value}(h:jG P w U x b d e):
  Src P d f x b.length (flat b.length d e) w:=by
 obtain⟨a,c,rfl⟩:=h.val;refine⟨.inl ⟨g,j⟩,λ_=>rfl,h.cells w rfl,h.cells w.drew rfl,bJ _ _ _,λu l=>?_⟩;obtain⟨k,m,rfl⟩:=List.mem_iff_getElem.1 l;obtain⟨n,i,o,p⟩:=eI e (List.getElem?_eq_getElem m);rw[p];have q:=List.getElem?_eq_getElem i;exact h.el.one _ _ _ _ q (List.getElem?_eq_getElem (by rw[h.el.sz _ (List.getElem_mem i)];exact o))
def kc.append{U:Nat->Prop}{f:Nat}{d g:List (List PV)}{k l:Nat->Nat->Value}(a:kc w U f d k)(b:kc w U f g l):
  kc w U f (d++g) (λi j=>if i<d.length then k i j else l (i-d.length) j):=by
 refine⟨λi x j y c e=>?_,λi x j y c e=>?_,λx c=>?_⟩
 .by_cases h:i<d.length
  .rw[aq h];rw[List.getElem?_append_left h]at c;exact a.one _ _ _ _ c e
  .rw[an h];rw[List.getElem?_append_right ae]at c;exact b.one _ _ _ _ c e
 .by_cases h:i<d.length
  .rw[aq h];rw[List.getElem?_append_left h]at c;exact a.rep _ _ _ _ c e
  .rw[an h];rw[List.getElem?_append_right ae]at c;exact b.rep _ _ _ _ c e
 .rcases List.mem_append.1 c with h|h
  .exact a.sz _ h
  .exact b.sz _ h
def sD(z:Array Value)(n:Nat):(Builtin.zeroCells z n).size=n*z.size:=by simp[Builtin.zeroCells]
def vU{id:Nat}(m:Mem B w0 U0 β H nx w){g:Nat}{q:List (List PV)}(s:ah H id=some (.row false g q))(f:List (List PV))(E:q.length<f.length)(t:Nat->Nat->Value)(a:Array Value)(d:Nat)(T:TypeId)(r:World)(l:r.heap=w.heap)(v:Below B w r)
  (F:a.size=d*g)(G:f.length<=d)(z:kc w (Own U0 β H) g f t)(I:∀i x j y,f[i]?=some x->x[j]?=some y->a[i*g+j]?=some (t i j)):
  Good B w0 U0 H nx β w (.ref id f.length 0 f.length) (aH H id (.row false g f)) nx (.slice (some ⟨w.heap.size,0,none⟩) f.length d) (r.alloc (.cells a T)):=by
 have hid:=m.h.lt _ _ s;have n:ah (aH H id (.row false g f)) id=some (.row false g f):=by rw[bn,aq rfl,s];rfl
 have u:pR β H nx w (gS β id (some (w.heap.size,d))) (aH H id (.row false g f)) nx (r.alloc (.cells a T)) id (.row false g f):=by
  refine⟨λk p=>?_,n,rfl,λk p=>rW _ _ _ p,Nat.le_refl _,hid,.inr ⟨_,s,rfl,rfl,ae,λe=>ae⟩,λb o h=>.inl ?_,λb c h=>.inl ?_⟩
  .rw[bn,an (λe=>p e.symm)]
  .rw[heap_alloc,l,an (by have:=aM h;omega)];exact h
  .rw[b7]at h;simp at h;omega
 have p:=u.keeps (U0:=U0);have A:=u.cn;have J:Below B w (r.alloc (.cells a T)):=v.trans (ix (by rw[l];exact m.bsize) _);refine⟨_,u.mem m J (.inr ⟨w.heap.size,d,a,T,b7 _ _ _,m.bsize,by rw[heap_alloc,l,aq rfl],F,G,z.sz,t,I,z.one,(z.lx p).rep⟩),p,A,?_⟩;refine .ref id _ 0 _ _ hid rfl (λK C D h=>?_) (λK C D h=>by rw[n]at h;cases h);rw[n]at h;simp only[aw,ca.row.injEq]at h;obtain⟨_,rfl,rfl⟩:=h;exact⟨Nat.le_refl _,λ_ _=>.inr ⟨w.heap.size,d,some ⟨w.heap.size,0,none⟩,b7 _ _ _,aB,λ_=>aB⟩⟩
def uu{t A e N:TypeId}{ty:TypeId}{i:TypeInfo}{z:Value}(O:P.underlying t=some (.slice e))(C:P.underlying A=some (.slice N))(Q:P.info? e=some i)
  (R:i.zero=some z){o:Nat}(D:i.size=o)(E:z.cells.size=o){U:Nat->Prop}{b c:List (List PV)}{q r:Nat->Nat->Value}{a x:Value}(J:jG P w U a b o q)
  (K:jG P w U x c o r){l:Option Addr}{g:Nat}(F:a=.slice l b.length g)(m:g<b.length+c.length)
  (L:(b.length+c.length)*i.bytes<=ak)(S:b.length+c.length<=ak):
  ∃(n:Array Value) (d:Nat),(Builtin.append_ #[t,A] ty #[a,x]).run P w=.ok (.slice (some ⟨w.heap.size,0,none⟩) (b++c).length d) (w.drew.alloc (.cells n e))/\n.size=d*o/\(b++c).length<=d/\
   ∀k y j p,(b++c)[k]?=some y->y[j]?=some p->n[k*o+j]?=some (if k<b.length then q k j else r (k-b.length) j):=by
 subst D;subst F;have s:=run_append_grow_src (P:=P) w t A ty e i z O Q R l b.length g (flat b.length i.size q) (J.cells w.drew rfl) x c.length (flat c.length i.size r) (K.src C) m
  (by unfold ak at S;omega) (growslice_fits m (by unfold ak at L;exact L))
 have f:b.length+c.length<=grownCap w (b.length+c.length) g e:=by simp[grownCap,Question.cut]
 have T:(b++c).length=b.length+c.length:=aB;have u:(flat b.length i.size q++flat c.length i.size r).length=(b.length+c.length)*i.size:=by simp[bJ,dq]
 rw[T];refine⟨_,_,s,?_,f,?_⟩
 .rw[Ay,sD,E,List.size_toArray,u,<-dq];congr 1;omega
 .intro k y j p M V;have W:y.length=i.size:=(J.el.append K.el).sz y (List.mem_of_getElem? M);have v:j<i.size:=by have:=aL V;omega
  have G:k<b.length+c.length:=by have:=aL M;simpa using this
  have I:k*i.size+j<(b.length+c.length)*i.size:=by
   have:(k+1)*i.size<=(b.length+c.length)*i.size:=c7 _ G;rw[dq,gX]at this;omega
  rw[BW (by rw[List.size_toArray,u];exact I),List.getElem?_toArray];by_cases h:k<b.length
  .rw[aq h,List.getElem?_append_left]
   .exact iW q h v
   .rw[bJ];have:(k+1)*i.size<=b.length*i.size:=c7 _ h;rw[dq,gX]at this;omega
  .rw[an h];have X:k*i.size=b.length*i.size+(k-b.length)*i.size:=by rw[<-dq];congr 1;omega
   rw[List.getElem?_append_right (by rw[bJ];omega),bJ,show k*i.size+j-b.length*i.size=(k-b.length)*i.size+j from ae];exact iW r ae v
def F6{t n e p:TypeId}{ty:TypeId}{i:TypeInfo}(q:P.underlying t=some (.slice e))(h:P.underlying n=some (.slice p))(r:P.info? e=some i)
  {j:Nat}(l:i.size=j){U:Nat->Prop}{g:List (List PV)}{m:Nat->Nat->Value}{x:Value}(s:jG P w U x g j m){b len d:Nat}{a:Array Value}{T:TypeId}
  (u:w.heap[b]?=some (.cells a T (0,0)))(c:len+g.length<=d)(v:a.size=d*j):
  (Builtin.append_ #[t,n] ty #[.slice (some ⟨b,0,none⟩) len d,x]).run P w=.ok (.slice (some ⟨b,0,none⟩) (len+g.length) d) (cu w b (cA a (len*j) (flat g.length j m)) T (0,0)):=by
 subst l;have f:=s.src h;have o:len*i.size+g.length*i.size<=a.size:=by rw[v,<-dq];exact c7 _ c
 have k:=j1 (P:=P) (b:=b) (off:=len*i.size) (T:=T) (flat g.length i.size m) 0 w a u f.one (by rw[bJ];omega);simp only[pO]at k;simp[Builtin.append_,run_underlying q,run_underlying h,sizeOf,typeInfo,r,f.len,c,f.cells,hM,k]
def zC{t j e l:TypeId}{m:TypeId}{i:TypeInfo}(n:P.underlying t=some (.slice e))(d:P.underlying j=some (.slice l))(o:P.info? e=some i)
  {k:Nat}(g:i.size=k){U:Nat->Prop}{p:Nat->Nat->Value}{x:Value}(q:jG P w U x [] k p)(a:Option Addr){b c:Nat}(h:b<=c):
  (Builtin.append_ #[t,j] m #[.slice a b c,x]).run P w=.ok (.slice a b c) w:=by
 subst g;have f:=q.src d;have r:(Builtin.firstCells i.size 0 x).run P w=.ok #[] w:=by simpa[flat]using f.cells
 cases a<;>simp[Builtin.append_,run_underlying n,run_underlying d,sizeOf,typeInfo,o,f.len,h,r,storeCells]
def bP.kz{U:Nat->Prop}{d:Bool}{e:List (List PV)}{x:Value}(h:bP w U (.slice d e) x):∃a c,x=.slice a e.length c/\e.length<=c/\(d=true->c=e.length):=by
 cases h with
 |none _ a c f=>exact⟨a,c,rfl,aB,λh=>by simpa using f h⟩
 |slice _ _ b g c l i T m n j f k=>exact⟨_,c,rfl,f,k⟩
def lW{id:Nat}{aY:ca}(h:ah H id=some aY):gT H (aH H id aY):=by
 refine⟨λk b a=>?_⟩;rw[bn]at a;split at a
 .rename_i e;subst e;rw[h]at a;simp at a;subst a;exact⟨_,h,.inl rfl⟩
 .exact⟨b,a,.inl rfl⟩
def U5(o:Obj):Prop:=∃a T b,o=.cells a T b
def mK(w a:World):Prop:=∀(k:Nat) (o:Obj),¬U5 o->w.heap[k]?=some o->a.heap[k]?=some o
def mK.refl(w:World):mK w w:=λ_ _ _ h=>h
def CL{w:World}{b:Nat}{c a:Array Value}{T:TypeId}{d:Nat×Nat}(f:w.heap[b]?=some (.cells c T d)):mK w (cu w b a T d):=by
 intro k o g h;rw[dI];by_cases e:b=k
 .subst e;rw[f]at h;cases h;exact absurd ⟨_,_,_,rfl⟩ g
 .rw[an (λx=>e x.1)];exact h
def tc(w:World)(o:Obj):mK w (w.drew.alloc o):=by
 intro k a _ h;rw[heap_alloc,an (by have:=aM h;show¬k=w.heap.size;omega)];exact h
def EN(w:World)(o:Obj):mK w (w.alloc o):=by
 intro k a _ h;rw[heap_alloc,an (by have:=aM h;omega)];exact h
def Kl{t t2 ty:TypeId}{bytes sz:Nat}(l:jB P t t2 bytes sz=true)(m:Mem B w0 U0 β H nx w){v u:DV}{a x:Value}(ha:bj w (Own U0 β H) β H nx v a)(hx:bj w (Own U0 β H) β H nx u x)
  {A:List (List PV)}{xu:List Nat}(xv:jD H u=some (A,xu))(xw:bV sz A=true){r:DV}{H':Heap}{xd:Nat}
  (h:iX bytes sz A v H nx=some (r,H',xd)):
  ∃y w',(Builtin.append_ #[t,t2] ty #[a,x]).run P w=.ok y w'/\Good B w0 U0 H nx β w r H' xd y w'/\mK w w':=by
 unfold jB at l;cases C:bY P t with
 |none=>rw[C]at l;cases l
 |some e=>
 cases o:bY P t2 with
 |none=>rw[C,o]at l;cases l
 |some e2=>
 rw[C,o]at l;simp only at l;have ht:P.underlying t=some (.slice e):=by
  unfold bY at C;split at C
  .rename_i hu;cases C;exact hu
  .cases C
 have G:P.underlying t2=some (.slice e2):=by
  unfold bY at o;split at o
  .rename_i hu;cases o;exact hu
  .cases o
 cases L:P.info? e with
 |none=>rw[L]at l;cases l
 |some i=>
 rw[L]at l;simp only[aO,cw,cp]at l;obtain⟨⟨⟨⟨y0,I⟩,D⟩,yc⟩,yh⟩:=l;cases hz:i.zero with
 |none=>rw[hz]at D;cases D
 |some z=>
 rw[hz]at D;simp only[cw]at D;obtain⟨us,M⟩:=Bk (P:=P) m xv hx xw;subst y0;unfold iX at h;have y1:(∃N f,v=.p (.slice N f))\/(∃id x3 x4 n,v=.ref id x3 x4 n):=by
  cases v with
  |p q=>cases q with
   |slice N f=>exact .inl ⟨_,_,rfl⟩
   |_=>cases h
  |ref id x3 x4 n=>exact .inr ⟨_,_,_,_,rfl⟩
  |_=>cases h
 rcases y1 with⟨N,f,rfl⟩|⟨id,x3,x4,n,rfl⟩
 .simp only at h;cases ha with|p _ _ hp=>
  obtain⟨U,c,rfl,y2,O⟩:=hp.kz;have E:A=[]->(Builtin.append_ #[t,t2] ty #[.slice U f.length c,x]).run P w=.ok (.slice U f.length c) w:=by
   intro hy;subst hy;exact zC ht G L I M U y2
  split at h
  .rename_i hc;simp only[aO,cp]at hc;obtain⟨⟨⟨hf,y3⟩,V⟩,W⟩:=hc;split at h
   .rename_i Z;simp only[aO,List.isEmpty_iff]at Z;cases h;exact⟨_,_,E Z.1,bl m (.p _ _ hp),mK.refl _⟩
   .rename_i Z;cases h;obtain⟨vs,sa⟩:=kI (P:=P) hp y3;by_cases J:A=[]
    .have xg:f=[]:=by
      simp only[aO,List.isEmpty_iff,jW,not_and,Mb]at Z;simpa using Z J
     subst J;subst xg;have:c=0:=O hf;subst this;exact⟨_,_,E rfl,Gv m sz U,mK.refl _⟩
    .have Q:0<A.length:=List.length_pos_iff.2 J;obtain⟨K,s,g,h1,h2,X⟩:=uu (ty:=ty) ht G L hz I D sa M rfl (by rw[O hf];omega) V W;have hg:=I7 m sz (f++A) _ K s e w.drew rfl (eA _ _) h1 h2 (sa.el.append M.el) X;rw[List.length_append]at hg g;exact⟨_,_,g,hg,tc _ _⟩
  .split at h
   .rename_i Z;cases h;exact⟨_,_,E (by simpa using Z),bl m (.p _ _ hp),mK.refl _⟩
   .cases h
 .simp only at h;split at h
  .rename_i d f S;split at h
   .rename_i hc;obtain⟨x2,rfl,rfl,rfl,V,W⟩:=hc;cases h;have R:=ha;cases ha with|ref _ _ _ _ _ hid y4 xi=>
    have yf:(f.drop 0).take f.length=f:=aB;rcases(xi _ _ _ S).2 x2 ae with⟨rfl,yj,U,rfl⟩|⟨b,x7,U,hb,rfl,y5⟩
    .by_cases J:A=[]
     .subst J;refine⟨_,_,zC ht G L I M U (Nat.le_refl 0),np m (lW (by simpa using S)) ?_,mK.refl _⟩;refine R.cn ((lW S).keeps w) ((lW S).cn (Nat.le_refl _))|>λh=>?_
      subst x2;simpa using h
     .have Q:0<A.length:=List.length_pos_iff.2 J;obtain⟨vs,sa⟩:∃vs,jG P w (Own U0 β H) (.slice U 0 0) [] d vs:=kI (full:=false) (.none false U 0 aB) rfl;obtain⟨K,s,g,h1,h2,X⟩:=uu (ty:=ty) ht G L hz I D sa M rfl (by simpa using Q) V W;have hg:=vU m S ([]++A) (by simpa using Q) _ K s e w.drew rfl (eA _ _) h1 h2 (sa.el.append M.el) X;rw[List.length_append]at hg g;exact⟨_,_,g,hg,tc _ _⟩
    .rcases m.h.aY id _ S with⟨xg,hn⟩|⟨b',s,K,T,h1,h2,X,h4,h5,h6,vs,h7,h8,h9⟩
     .rw[hb]at hn;cases hn
     .rw[hb]at h1;simp only[aw,bQ]at h1;obtain⟨rfl,rfl⟩:=h1;obtain rfl:=y5 (.inr rfl);simp only[wc,qD]at R⊢;have x8:kc w (Own U0 β H) d f vs:=⟨h8,h9,h6⟩;have x9:∀i j,i<f.length->j<d->K[0+i*d+j]?=some (vs i j):=by
       intro i j L hj;rw[Nat.zero_add];have hx:=List.getElem?_eq_getElem L;have hl:=h6 _ (List.getElem_mem L);exact h7 i _ j _ hx (List.getElem?_eq_getElem ae)
      have sa:jG P w (Own U0 β H) (.slice (some ⟨b,0,none⟩) f.length x7) f d vs:=
       ⟨⟨_,_,rfl⟩,x8,λw' hw=>gI (by rw[hw];exact X) x9,λw' n hw hn=>gI (by rw[hw];exact X) λi j L hj=>x9 i j ae hj⟩
      by_cases F:f.length+A.length<=x7
      .refine⟨_,_,F6 ht G L I M X F h4,?_,CL X⟩;have xj:f.length*d+(flat A.length d us).length<=K.size:=by rw[bJ,h4,<-dq];exact c7 _ F
       refine lh m S hb h2 X (by rw[bW,h4]) (by rw[List.length_append];exact F) aB _ (x8.append M.el) (λk y j p hk hj=>?_) _ _ (λH' ya Z hk=>?_)
       .have yn:y.length=d:=(x8.append M.el).sz y (List.mem_of_getElem? hk);have xk:j<d:=by have:=aL hj;omega
        have yo:k<f.length+A.length:=by have:=aL hk;simpa using this
        rw[fg _ _ _ _ xj,bJ];by_cases Y:k<f.length
        .have:(k+1)*d<=f.length*d:=c7 _ Y;rw[dq,gX]at this;rw[an ae,aq Y];have:=x9 k j Y xk
         rwa [Nat.zero_add]at this
        .have e1:k*d=f.length*d+(k-f.length)*d:=by rw[<-dq];congr 1;omega
         have e2:(k-f.length+1)*d<=A.length*d:=c7 _ ae;rw[dq,gX]at e2;rw[aq ⟨ae,ae⟩,an Y,show k*d+j-f.length*d=(k-f.length)*d+j from ae];exact iW us ae xk
       .subst ya;refine .ref id _ 0 _ _ hid rfl (λfz xl yb h=>?_) (λfz xl yb h=>by rw[bn,aq rfl,S]at h;cases h);rw[bn,aq rfl,S]at h;simp only[Option.map_some,aw,ca.row.injEq]at h;obtain⟨_,rfl,rfl⟩:=h;rw[List.length_append];exact⟨Nat.le_refl _,λ_ _=>.inr ⟨b,x7,some ⟨b,0,none⟩,hb,aB,λ_=>aB⟩⟩
      .obtain⟨xm,s,g,g1,g2,g3⟩:=uu (ty:=ty) ht G L hz I D sa M rfl ae V W;have hg:=vU m S (f++A) (by rw[List.length_append];omega) _ xm s e w.drew rfl (eA _ _) g1 g2 (sa.el.append M.el) g3;rw[List.length_append]at hg g;exact⟨_,_,g,hg,tc _ _⟩
   .cases h
  .cases h
def Ci{t i ty:TypeId}{bytes d:Nat}(e:jB P t i bytes d=true)(m:Mem B w0 U0 β H nx w){v u:DV}{a x:Value}(k:bj w (Own U0 β H) β H nx v a)(l:bj w (Own U0 β H) β H nx u x)
  {ys:List (List PV)}{ids:List Nat}(f:jD H u=some (ys,ids))(g:bV d ys=true){r:DV}{j:Heap}{b:Nat}
  (h:iX bytes d ys v H nx=some (r,j,b)):
  ∃y c,(Builtin.append_ #[t,i] ty #[a,x]).run P w=.ok y c/\Good B w0 U0 H nx β w r j b y c:=by
 obtain⟨y,c,n,o,_⟩:=Kl (ty:=ty) e m k l f g h;exact⟨y,c,n,o⟩
def AF{id:Nat}(m:Mem B w0 U0 β H nx w){g:Nat}{q:List (List DV)}(t:ah H id=some (.bh false g q))(f:List (List DV))(E:q.length<f.length)(v:Nat->Nat->Value)(a:Array Value)(d:Nat)(T:TypeId)(r:World)(l:r.heap=w.heap)(z:Below B w r)
  (F:a.size=d*g)(G:f.length<=d)(A:ik w (Own U0 β H) β H nx g f v)(I:∀i x j y,f[i]?=some x->x[j]?=some y->a[i*g+j]?=some (v i j)):
  Good B w0 U0 H nx β w (.ref id f.length 0 f.length) (aH H id (.bh false g f)) nx (.slice (some ⟨w.heap.size,0,none⟩) f.length d) (r.alloc (.cells a T)):=by
 have hid:=m.h.lt _ _ t;have n:ah (aH H id (.bh false g f)) id=some (.bh false g f):=by rw[bn,aq rfl,t];rfl
 have u:pR β H nx w (gS β id (some (w.heap.size,d))) (aH H id (.bh false g f)) nx (r.alloc (.cells a T)) id (.bh false g f):=by
  refine⟨λk p=>?_,n,rfl,λk p=>rW _ _ _ p,Nat.le_refl _,hid,.inr ⟨_,t,rfl,rfl,ae,λe=>ae⟩,λb o h=>.inl ?_,λb c h=>.inl ?_⟩
  .rw[bn,an (λe=>p e.symm)]
  .rw[heap_alloc,l,an (by have:=aM h;omega)];exact h
  .rw[b7]at h;simp at h;omega
 have p:=u.keeps (U0:=U0);have s:=u.cn;have J:Below B w (r.alloc (.cells a T)):=z.trans (ix (by rw[l];exact m.bsize) _);refine⟨_,u.mem m J (.inr ⟨w.heap.size,d,a,T,b7 _ _ _,m.bsize,by rw[heap_alloc,l,aq rfl],F,G,A.sz,v,I,A.one,(A.cn p s).rep⟩),p,s,?_⟩;refine .ref id _ 0 _ _ hid rfl (λK C D h=>by rw[n]at h;cases h) (λK C D h=>?_);rw[n]at h;simp only[aw,ca.bh.injEq]at h;obtain⟨_,rfl,rfl⟩:=h;exact⟨Nat.le_refl _,λ_ _=>.inr ⟨w.heap.size,d,some ⟨w.heap.size,0,none⟩,b7 _ _ _,aB,λ_=>aB⟩⟩
def rZ(a:List (List DV)):List (List PV):=a.map λx=>x.map λ_=>.undef
def fW(a:List (List DV)):(rZ a).length=a.length:=by simp[rZ]
def CE{a:List (List DV)}{i:Nat}{y:List PV}(h:(rZ a)[i]?=some y):∃x,a[i]?=some x/\y=x.map λ_=>.undef:=by
 simp only[rZ,List.getElem?_map]at h;cases b:a[i]? with
 |none=>rw[b]at h;cases h
 |some x=>rw[b]at h;simp only[Option.map_some,aw]at h;exact⟨x,rfl,h.symm⟩
def M6{U:Nat->Prop}{g:Nat}{f:List (List DV)}{h:Nat->Nat->Value}(k:∀i x j y,f[i]?=some x->x[j]?=some y->(h i j).oneCell'=true)(l:∀x∈f,x.length=g):kc w U g (rZ f) h:=by
 refine⟨λi y j q b a=>?_,λi y j q b a=>?_,λy b=>?_⟩
 .obtain⟨x,e,rfl⟩:=CE b;rw[List.getElem?_map]at a;cases c:x[j]? with
  |none=>rw[c]at a;cases a
  |some d=>exact k i x j d e c
 .obtain⟨x,e,rfl⟩:=CE b;rw[List.getElem?_map]at a;cases c:x[j]? with
  |none=>rw[c]at a;cases a
  |some d=>rw[c]at a;simp only[Option.map_some,aw]at a;subst a;exact .undef _
 .obtain⟨i,m⟩:=List.getElem?_of_mem b;obtain⟨x,e,rfl⟩:=CE m;rw[List.length_map];exact l x (List.mem_of_getElem? e)
def ui{id:Nat}{G:Bool}{f:Nat}{e:List (List DV)}(m:Mem B w0 U0 β H nx w)(D:ah H id=some (.bh G f e)){x:Value}(s:bj w (Own U0 β H) β H nx (.ref id e.length 0 e.length) x):
  ∃l,jG P w (Own U0 β H) x (rZ e) f l/\ik w (Own U0 β H) β H nx f e l/\
   ((e=[]/\β id=none/\∃I,x=.slice I 0 0)\/∃b d c T,β id=some (b,d)/\B<=b/\w.heap[b]?=some (.cells c T (0,0))/\c.size=d*f/\e.length<=d/\x=.slice (some ⟨b,0,none⟩) e.length d/\∀i j,i<e.length->j<f->c[i*f+j]?=some (l i j)):=by
 cases s with|ref _ _ _ _ _ hid S _ h=>
 rcases(h _ _ _ D).2 rfl ae with⟨rfl,t,a,rfl⟩|⟨b,d,a,u,rfl,J⟩
 .refine⟨λ_ _=>undef,⟨⟨a,0,rfl⟩,⟨by simp[rZ],by simp[rZ],by simp[rZ]⟩,λv _=>?_,λv k _ K=>?_⟩,⟨aB,aB,aB⟩,.inl ⟨rfl,t,a,rfl⟩⟩
  .cases a<;>simp[Builtin.firstCells,flat,loadCells,loadCellsFrom,rZ]
  .obtain rfl:k=0:=by simpa[rZ]using K
   cases a<;>simp[Builtin.firstCells,flat,loadCells,loadCellsFrom]
 .obtain rfl:=J (.inr rfl);simp only[wc,qD];rcases m.h.aY id _ D with⟨L,q⟩|⟨U,E,c,T,y,M,z,N,O,A,l,Q,F,R⟩
  .rw[u]at q;cases q
  .rw[u]at y;simp only[aw,bQ]at y;obtain⟨rfl,rfl⟩:=y;have o:∀i j,i<e.length->j<f->c[i*f+j]?=some (l i j):=by
    intro i j p r;have s:=List.getElem?_eq_getElem p;have V:=A _ (List.getElem_mem p);exact Q i _ j _ s (List.getElem?_eq_getElem ae)
   have g:∀i j,i<e.length->j<f->c[0+i*f+j]?=some (l i j):=λi j p r=>by rw[Nat.zero_add];exact o i j p r
   refine⟨l,⟨⟨_,_,by rw[fW]⟩,M6 F A,λv C=>?_,λv n C q=>?_⟩,⟨F,R,A⟩,.inr ⟨b,d,c,T,u,M,z,N,O,rfl,o⟩⟩
   .rw[fW];exact gI (by rw[C];exact z) g
   .rw[fW]at q;exact gI (by rw[C];exact z) λi j p r=>g i j ae r
def ik.append{U:Nat->Prop}{f:Nat}{d g:List (List DV)}{k l:Nat->Nat->Value}(a:ik w U β H nx f d k)(b:ik w U β H nx f g l):
  ik w U β H nx f (d++g) (λi j=>if i<d.length then k i j else l (i-d.length) j):=by
 refine⟨λi x j y c e=>?_,λi x j y c e=>?_,λx c=>?_⟩
 .by_cases h:i<d.length
  .rw[aq h];rw[List.getElem?_append_left h]at c;exact a.one _ _ _ _ c e
  .rw[an h];rw[List.getElem?_append_right ae]at c;exact b.one _ _ _ _ c e
 .by_cases h:i<d.length
  .rw[aq h];rw[List.getElem?_append_left h]at c;exact a.rep _ _ _ _ c e
  .rw[an h];rw[List.getElem?_append_right ae]at c;exact b.rep _ _ _ _ c e
 .rcases List.mem_append.1 c with h|h
  .exact a.sz _ h
  .exact b.sz _ h
def yF{t t2 ty e e2:TypeId}{i:TypeInfo}{z:Value}(ht:P.underlying t=some (.slice e))(D:P.underlying t2=some (.slice e2))(hi:P.info? e=some i)(hz:i.zero=some z){d:Nat}(E:i.size=d)(x4:z.cells.size=d)
  (m:Mem B w0 U0 β H nx w){id:Nat}{f:List (List DV)}(F:ah H id=some (.bh false d f)){a x:Value}(ha:bj w (Own U0 β H) β H nx (.ref id f.length 0 f.length) a)
  {o:List (List PV)}{g:List (List DV)}{K:Nat->Nat->Value}(W:jG P w (Own U0 β H) x o d K)(X:ik w (Own U0 β H) β H nx d g K)(G:o.length=g.length)
  (x5:(f.length+g.length)*i.bytes<=ak)(x6:f.length+g.length<=ak):
  ∃y L,(Builtin.append_ #[t,t2] ty #[a,x]).run P w=.ok y L/\Good B w0 U0 H nx β w (.ref id (f.length+g.length) 0 (f.length+g.length)) (aH H id (.bh false d (f++g))) nx y L:=by
 have I:=ha;obtain⟨vs,sa,Y,s⟩:=ui (P:=P) m F ha;have hid:id<nx:=m.h.lt _ _ F;have conv:∀{r:Array Value},(∀k y j p,(rZ f++o)[k]?=some y->y[j]?=some p->r[k*d+j]?=some (if k<(rZ f).length then vs k j else K (k-(rZ f).length) j))->
   ∀i x j y,(f++g)[i]?=some x->x[j]?=some y->r[i*d+j]?=some (if i<f.length then vs i j else K (i-f.length) j):=by
  intro r Z i x j y hx hy;have J:j<d:=by
   have:=aL hy;have xr:x.length=d:=by
    rcases List.mem_append.1 (List.mem_of_getElem? hx)with h|h
    .exact Y.sz x h
    .exact X.sz x h
   omega
  have xt:i<f.length+g.length:=by have:=aL hx;simpa using this
  have e1:∃q:List PV,(rZ f++o)[i]?=some q/\q.length=d:=by
   have M:i<(rZ f++o).length:=by rw[List.length_append,fW];omega
   refine⟨_,List.getElem?_eq_getElem M,?_⟩;rcases List.mem_append.1 (List.getElem_mem M)with h|h
   .exact sa.el.sz _ h
   .exact W.el.sz _ h
  obtain⟨q,hq,xv⟩:=e1;have:=Z i q j _ hq (List.getElem?_eq_getElem ae)
  rwa [fW]at this
 by_cases N:g=[]
 .subst N;have x8:o=[]:=List.eq_nil_of_length_eq_zero G;subst x8;have l1:=lW (H:=H) F;obtain⟨ad,c,A⟩:=sa.val;have O:(rZ f).length<=c:=by
   rcases s with⟨rfl,_,xw,e⟩|⟨b,u,r,T,_,_,_,_,xx,e,_⟩
   .simp[rZ]
   .rw[A]at e;injection e with _ _ e3;rw[fW];omega
  subst A;refine⟨_,_,zC ht D hi E W ad O,np m (by simpa using l1) ?_⟩;have:=I.cn (l1.keeps w) (l1.cn (Nat.le_refl _));simpa using this
 .have Q:0<g.length:=List.length_pos_iff.2 N;have grow:∀(C:Option Addr) (c:Nat),a=.slice C (rZ f).length c->c<f.length+g.length->∃y L,(Builtin.append_ #[t,t2] ty #[a,x]).run P w=.ok y L/\Good B w0 U0 H nx β w (.ref id (f.length+g.length) 0 (f.length+g.length)) (aH H id (.bh false d (f++g))) nx y L:=by
   intro C c xb xc;obtain⟨R,S,l,g1,g2,g3⟩:=uu (ty:=ty) ht D hi hz E x4 sa W xb (by rw[fW,G];exact xc) (by rw[fW,G];exact x5) (by rw[fW,G];exact x6);rw[List.length_append,fW,G]at g2 l;have Z:=AF m F (f++g) (by rw[List.length_append];omega) _ R S e w.drew rfl (eA _ _) g1 (by rw[List.length_append];exact g2) (Y.append X) (conv g3);rw[List.length_append]at Z;exact⟨_,_,l,Z⟩
  rcases s with⟨rfl,y0,ad,rfl⟩|⟨b,u,r,T,hb,h2,h3,h4,h5,rfl,xe⟩
  .exact grow ad 0 rfl (by simpa using Q)
  .by_cases n:f.length+g.length<=u
   .have l:=F6 (ty:=ty) ht D hi E W h3 (len:=f.length) (by rw[G];exact n) h4;rw[G]at l;refine⟨_,_,l,?_⟩;have U:f.length*d+(flat g.length d K).length<=r.size:=by rw[bJ,h4,<-dq];exact c7 _ n
    refine qA m F hb h2 h3 (by rw[bW,h4]) (by rw[List.length_append];exact n) aB _ (Y.append X) (λk y j p hk hj=>?_) _ _ (λH' xg he hk=>?_)
    .have y3:y.length=d:=(Y.append X).sz y (List.mem_of_getElem? hk);have J:j<d:=by have:=aL hj;omega
     have y4:k<f.length+g.length:=by have:=aL hk;simpa using this
     rw[fg _ _ _ _ U,bJ];by_cases v:k<f.length
     .have:(k+1)*d<=f.length*d:=c7 _ v;rw[dq,gX]at this;rw[an ae,aq v];exact xe k j v J
     .have e1:k*d=f.length*d+(k-f.length)*d:=by rw[<-dq];congr 1;omega
      have e2:(k-f.length+1)*d<=g.length*d:=c7 _ ae;rw[dq,gX]at e2;rw[aq ⟨ae,ae⟩,an v,show k*d+j-f.length*d=(k-f.length)*d+j from ae];exact iW K ae J
    .subst xg;refine .ref id _ 0 _ _ hid rfl (λfz V xh h=>by rw[bn,aq rfl,F]at h;cases h) (λfz V xh h=>?_);rw[bn,aq rfl,F]at h;simp only[Option.map_some,aw,ca.bh.injEq]at h;obtain⟨_,rfl,rfl⟩:=h;rw[List.length_append];exact⟨Nat.le_refl _,λ_ _=>.inr ⟨b,u,some ⟨b,0,none⟩,hb,aB,λ_=>aB⟩⟩
   .exact grow _ u (by rw[fW]) ae
def GX{t j L:TypeId}{bytes E:Nat}(b:jB P t j bytes E=true)(m:Mem B w0 U0 β H nx w){v u:DV}{a x:Value}(M:bj w (Own U0 β H) β H nx v a)(N:bj w (Own U0 β H) β H nx u x)
  {r:DV}{F:Heap}{g:Nat}(h:re bytes E v u H nx=some (r,F,g)):
  ∃y G,(Builtin.append_ #[t,j] L #[a,x]).run P w=.ok y G/\Good B w0 U0 H nx β w r F g y G:=by
 unfold jB at b;cases d:bY P t with
 |none=>rw[d]at b;cases b
 |some e=>
 cases c:bY P j with
 |none=>rw[d,c]at b;cases b
 |some O=>
 rw[d,c]at b;simp only at b;have Q:P.underlying t=some (.slice e):=by
  unfold bY at d;split at d
  .rename_i k;cases d;exact k
  .cases d
 have l:P.underlying j=some (.slice O):=by
  unfold bY at c;split at c
  .rename_i k;cases c;exact k
  .cases c
 cases o:P.info? e with
 |none=>rw[o]at b;cases b
 |some i=>
 rw[o]at b;simp only[aO,cw,cp]at b;obtain⟨⟨⟨⟨p,q⟩,f⟩,I⟩,R⟩:=b;cases s:i.zero with
 |none=>rw[s]at f;cases f
 |some z=>
 rw[s]at f;simp only[cw]at f;subst p;unfold re at h;split at h
 case h_2=>cases h
 rename_i id S T n U J K n2;split at h
 case h_2=>cases h
 rename_i V xs W X ys Y A;split at h
 case isFalse=>cases h
 rename_i Z;obtain⟨rfl,rfl,rfl,rfl,rfl,rfl,rfl,rfl,x0,C,D⟩:=Z;cases h;obtain⟨us,sx,ey,_⟩:=ui (P:=P) m A N;exact yF Q l o s q f m Y M sx ey (fW _) C D
end
end
end Go.Dv
