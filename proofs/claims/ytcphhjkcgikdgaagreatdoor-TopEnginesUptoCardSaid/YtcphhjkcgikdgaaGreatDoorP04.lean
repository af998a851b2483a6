/- Lemmas for the law of this claim. -/
import Derived.Test.YtcphhjkcgikdgaaGreatDoorP03
import Derived.Deep.AppendSrc
set_option linter.all false
namespace Go.Dv
section
open Go.RowKit
def E5(b:Array Value)(a n j:Nat)(h:j<n)(d:a+n<=b.size):(b.extract a (a+n)).getD j undef=b.getD (a+j) undef:=by
 have c:j<min (a+n) b.size-a:=ae;rw[dH,dH,UH,aq c]
def tS{a:Array Value}{j:Nat}{v:Value}(h:a[j]?=some v):a.getD j undef=v:=by simp[dH,h]
def iL{a:Array Value}{j:Nat}(h:j<a.size):a[j]?=some (a.getD j undef):=by simp[h]
def aN{b:Type}{l:List b}{j:Nat}{v:b}(h:l[j]?=some v):j<l.length:=by
 rcases bS j l.length with a|a
 .exact a
 .simp[List.getElem?_eq_none a]at h
section
variable{P:Program}{w:World}
def run_sizeOf{t:TypeId}{n:Nat}(h:dJ P t n=true)(w:World):(sizeOf t).run P w=.ok n w:=by
 unfold dJ at h;split at h
 .rename_i i a;simp at h;simp[sizeOf,typeInfo,a,h]
 .cases h
def sL{t:TypeId}{b:Bool}(h:jd P t=some b)(w:World):(isAgg t).run P w=.ok b w:=by
 unfold jd at h;split at h
 .rename_i a;cases h;simp[isAgg,run_underlying a]
 .rename_i a;cases h;simp[isAgg,run_underlying a]
 .rename_i d c e a;cases h;simp only[isAgg,Sem.run_bind,run_underlying a,Result.andThen_ok];rfl
 .cases h
def qI{t:TypeId}(h:Al P t none=true):jd P t=some false:=by
 unfold Al at h;simp only at h;split at h
 .assumption
 .cases h
def qL{t:TypeId}{n:Nat}(h:Al P t (some n)=true):jd P t=some true/\dJ P t n=true/\0<n:=by
 unfold Al at h;simp only[aL,df]at h;refine⟨?_,h.1.2,h.2⟩;have:=h.1.1;split at this
 .assumption
 .cases this
def wR{t:TypeId}{b a:Nat}{c:Array Value}{T:TypeId}{d:Nat×Nat}{v:Value}(e:w.heap[b]?=some (.cells c T d))(f:c[a]?=some v)
  (g:jd P t=some false):(Instr.loadAt t (.pointer (some ⟨b,a,none⟩))).run P w=.ok v w:=by
 simp[Instr.loadAt,Instr.sureAddr,loadVar,sL g,bR e f]
def BQ{t:TypeId}{b a n:Nat}{c:Array Value}{T:TypeId}{d:Nat×Nat}(e:w.heap[b]?=some (.cells c T d))(f:a+n<=c.size)
  (g:jd P t=some true)(h:dJ P t n=true):(Instr.loadAt t (.pointer (some ⟨b,a,none⟩))).run P w=.ok (.agg (c.extract a (a+n))) w:=by
 simp[Instr.loadAt,Instr.sureAddr,loadVar,sL g,run_sizeOf h,run_loadCells e f]
def th{t:TypeId}{b off n:Nat}{a:Array Value}{T:TypeId}{v:Value}(c:w.heap[b]?=some (.cells a T (0,0)))(d:dJ P t n=true)
  (e:v.cells.size=n)(f:∀x∈v.cells.toList,x.oneCell'=true)(g:off+n<=a.size):
  (Instr.storeAt t (.pointer (some ⟨b,off,none⟩)) v).run P w=.ok () (cA w b (cI a off v.cells.toList) T (0,0)):=by
 have:=kl (P:=P) (b:=b) (off:=off) (T:=T) v.cells.toList 0 w a c f (by simp;omega);simp only[Instr.storeAt,Instr.sureAddr,storeVar,Sem.run_bind,Sem.run_pure,Result.andThen_ok,run_sizeOf d,e,tK,not_true_eq_false,cK,this];rfl
end
section
variable{U:Nat->Prop}{β:Place}{H:Heap}{nx:Nat}{w:World}
def kN{c:Type}{b l:List c}{a n:Nat}(h:ez b a n=some l):l=(b.drop a).take n/\a+n<=b.length\/n=0/\l=[]:=by
 unfold ez at h;simp only at h;split at h
 .rename_i d;cases h;simp at d;by_cases e:n=0
  .right;subst e;simp
  .left;exact⟨rfl,ae⟩
 .cases h
def rU{d:DV}{l:List DV}(h:d.cells=some l){x:Value}(m:bg w U β H nx d x):
  x.cells.size=l.length/\∀j y,l[j]?=some y->bg w U β H nx y (x.cells.getD j undef)/\(x.cells.getD j undef).oneCell'=true:=by
 have a:d.iz=true->l=[d]->x.cells=#[x]->x.cells.size=l.length/\∀j y,l[j]?=some y->bg w U β H nx y (x.cells.getD j undef)/\(x.cells.getD j undef).oneCell'=true:=by
  intro b e t;rw[t,e];refine⟨rfl,λj y c=>?_⟩;cases j with
  |zero=>simp only[List.getElem?_cons_zero,ay]at c;subst c;exact⟨m,m.zi b⟩
  |succ j=>simp at c
 cases m with
 |agg A r e u o=>
  simp only[DV.cells,ay]at h;subst h;exact⟨e,λj y c=>⟨o j y c,u j y c⟩⟩
 |tuple=>simp[DV.cells,DV.iz]at h
 |p v x z=>
  simp only[DV.cells]at h;split at h
  .rename_i b;cases h;refine a b rfl ?_;cases z<;>first|rfl|simp[DV.iz,PV.iz]at b
  .cases h
 |ref id q g n v hid b s|ptr id g v hid b s|dA id q i g v hid b s=>
  simp only[DV.cells,DV.iz,cQ,ay]at h;refine a rfl h.symm ?_;cases x<;>first|rfl|simp[Value.oneCell']at b
 |func f k r e o|kK f k r e o=>
  simp only[DV.cells,DV.iz,cQ,ay]at h;exact a rfl h.symm rfl
def CV{p:PV}{l:List PV}(h:p.cellsOf=some l){x:Value}(c:bN w U p x):
  x.cells.size=l.length/\∀j y,l[j]?=some y->bN w U y (x.cells.getD j undef)/\(x.cells.getD j undef).oneCell'=true:=by
 have a:p.iz=true->l=[p]->x.cells=#[x]->x.cells.size=l.length/\∀j y,l[j]?=some y->bN w U y (x.cells.getD j undef)/\(x.cells.getD j undef).oneCell'=true:=by
  intro e d f;rw[f,d];refine⟨rfl,λj y b=>?_⟩;cases j with
  |zero=>simp only[List.getElem?_cons_zero,ay]at b;subst b;exact⟨c,c.zi e⟩
  |succ j=>simp at b
 cases c with
 |agg k m d g i=>
  simp only[PV.cellsOf,ay]at h;subst h;exact⟨d,λj y b=>⟨i j y b,g j y b⟩⟩
 |tuple|undef=>simp[PV.cellsOf,PV.iz]at h
 |int|bool|str|none|slice|dT|func|z|map|iface=>simp only[PV.cellsOf,PV.iz,cQ,ay]at h;exact a rfl h.symm rfl
end
def rA(w:World)(x:Value)(n:Nat)(R:Nat->Value->Prop):Prop:=
 ∃b a c T d,x=.pointer (some ⟨b,a,none⟩)/\w.heap[b]?=some (.cells c T d)/\a+n<=c.size/\∀j,j<n->(c.getD (a+j) undef).oneCell'=true/\R j (c.getD (a+j) undef)
section
variable{P:Program}{B:Nat}{w0:World}{U0:Nat->Prop}{β:Place}{H:Heap}{nx:Nat}{w:World}
def pC{x:Value}{n:Nat}{R:Nat->Value->Prop}(h:rA w x n R)(c:0<n){t:TypeId}(d:jd P t=some false):
  ∃v,(Instr.loadAt t x).run P w=.ok v w/\R 0 v:=by
 obtain⟨b,a,e,T,g,rfl,f,i,hR⟩:=h;exact⟨_,wR f (iL (j:=a) ae) d,(hR 0 c).2⟩
def sf{x:Value}{n:Nat}{R:Nat->Value->Prop}(h:rA w x n R){t:TypeId}(e:jd P t=some true)(f:dJ P t n=true):
  ∃a:Array Value,(Instr.loadAt t x).run P w=.ok (.agg a) w/\a.size=n/\∀j,j<n->(a.getD j undef).oneCell'=true/\R j (a.getD j undef):=by
 obtain⟨b,g,i,T,l,rfl,k,c,hR⟩:=h;refine⟨_,BQ k c e f,by simp;omega,λj d=>?_⟩;rw[E5 _ _ _ _ d c];exact hR j d
def sK{id a:Nat}{o:Bool}{e:List DV}(m:Mem B w0 U0 β H nx w)(k:ag H id=some (.var o e)){x:Value}(p:bg w (Own U0 β H) β H nx (.ptr id a) x)
  {n:Nat}(y:a+n<=e.length):rA w x n (λj v=>∀d,e[a+j]?=some d->bg w (Own U0 β H) β H nx d v):=by
 cases p with
 |ptr _ _ _ hid l h=>
  obtain⟨b,c,q,rfl⟩:=h _ _ k;obtain⟨z,A,f,T,g,C,r,D,s,t⟩:=m.h.aZ id _ k;rw[q]at g;simp only[ay,bY]at g;obtain⟨rfl,rfl⟩:=g;refine⟨b,a,f,T,(0,0),rfl,r,ae,λj E=>?_⟩;have i:a+j<e.length:=ae;have l:=List.getElem?_eq_getElem i;exact⟨s _ _ l,λd u=>t _ _ u⟩
def Bn{U:Nat->Prop}{c:List PV}{x:Value}(i:bN w U (.dT c) x){n:Nat}(t:n<=c.length)(u:0<n):
  rA w x n (λj v=>∀d,c[j]?=some d->bN w U d v):=by
 cases i with
 |dT _ b o a T k l m y f p q=>
  have e:∀j,j<n->a.getD (o+j) undef=l j:=λj g=>tS (f j _ (List.getElem?_eq_getElem ae))
  refine⟨b,o,a,T,k,rfl,m,?_,λj g=>?_⟩
  .have:=f (n-1) _ (List.getElem?_eq_getElem ae);rcases bS (o+(n-1)) a.size with h|h
   .omega
   .rw[ug h]at this;cases this
  .rw[e j g];have r:c[j]?=some (c[j]'ae):=List.getElem?_eq_getElem ae;exact⟨p j _ r,λd s=>q j d s⟩
def BC{id f i a:Nat}{D:Bool}{o:Nat}{q:List (List PV)}{y:List PV}(m:Mem B w0 U0 β H nx w)(s:ag H id=some (.row D o q))(g:f=q.length)
  (p:q[i]?=some y){x:Value}(E:bg w (Own U0 β H) β H nx (.dA id f i a) x){n:Nat}(N:a+n<=y.length)(O:0<n):
  rA w x n (λj v=>∀d,y[a+j]?=some d->bN w (Own U0 β H) d v):=by
 cases E with
 |dA _ _ _ _ _ hid t h _=>
  obtain⟨b,c,u,rfl⟩:=(h _ _ _ s).2 g (aN p);rcases m.h.aZ id _ s with⟨F,k⟩|⟨Q,z,e,T,r,R,G,S,V,W,I,J,K,L⟩
  .rw[u]at k;cases k
  .rw[u]at r;simp only[ay,bY]at r;obtain⟨rfl,rfl⟩:=r;have l:∀j,j<n->e[i*o+a+j]?=some (I i (a+j)):=λj A=>by
    have:=J i y (a+j) _ p (List.getElem?_eq_getElem ae);rw[<-Nat.add_assoc]at this;exact this
   refine⟨b,i*o+a,e,T,(0,0),rfl,G,?_,λj A=>?_⟩
   .have:=l (n-1) ae;rcases bS (i*o+a+(n-1)) e.size with C|C
    .omega
    .rw[ug C]at this;cases this
   .rw[tS (l j A)];have t:y[a+j]?=some (y[a+j]'ae):=List.getElem?_eq_getElem ae;exact⟨K i y _ _ p t,λd M=>L i y _ d p M⟩
def yA{id f i a:Nat}{D:Bool}{o:Nat}{q:List (List DV)}{y:List DV}(m:Mem B w0 U0 β H nx w)(s:ag H id=some (.aV D o q))(g:f=q.length)
  (p:q[i]?=some y){x:Value}(E:bg w (Own U0 β H) β H nx (.dA id f i a) x){n:Nat}(N:a+n<=y.length)(O:0<n):
  rA w x n (λj v=>∀d,y[a+j]?=some d->bg w (Own U0 β H) β H nx d v):=by
 cases E with
 |dA _ _ _ _ _ hid t _ h=>
  obtain⟨b,c,u,rfl⟩:=(h _ _ _ s).2 g (aN p);rcases m.h.aZ id _ s with⟨F,k⟩|⟨Q,z,e,T,r,R,G,S,V,W,I,J,K,L⟩
  .rw[u]at k;cases k
  .rw[u]at r;simp only[ay,bY]at r;obtain⟨rfl,rfl⟩:=r;have l:∀j,j<n->e[i*o+a+j]?=some (I i (a+j)):=λj A=>by
    have:=J i y (a+j) _ p (List.getElem?_eq_getElem ae);rw[<-Nat.add_assoc]at this;exact this
   refine⟨b,i*o+a,e,T,(0,0),rfl,G,?_,λj A=>?_⟩
   .have:=l (n-1) ae;rcases bS (i*o+a+(n-1)) e.size with C|C
    .omega
    .rw[ug C]at this;cases this
   .rw[tS (l j A)];have t:y[a+j]?=some (y[a+j]'ae):=List.getElem?_eq_getElem ae;exact⟨K i y _ _ p t,λd M=>L i y _ d p M⟩
end
end
section
open Go.RowKit
section
variable{P:Program}{B:Nat}{w0:World}{U0:Nat->Prop}{β:Place}{H:Heap}{nx:Nat}{w:World}
def MY(m:Mem B w0 U0 β H nx w):ag H nx=none:=by
 cases h:ag H nx with
 |none=>rfl
 |some b=>exact absurd (m.h.lt _ _ h) (Nat.lt_irrefl _)
def ic(β:Place)(id:Nat)(x:Option (Nat×Nat)):Place:=λk=>if k=id then x else β k
def cp(β:Place)(id:Nat)(x:Option (Nat×Nat)):ic β id x id=x:=by simp[ic]
def sY(β:Place)(id:Nat)(x:Option (Nat×Nat)){k:Nat}(h:k≠id):ic β id x k=β k:=by simp[ic,h]
def qh(m:Mem B w0 U0 β H nx w)(aZ:bq)(f:aZ.fz=false)(d:World)(x:Option (Nat×Nat))(g:∀(b:Nat) (o:Obj),w.heap[b]?=some o->d.heap[b]?=some o)(i:∀(b c:Nat),x=some (b,c)->w.heap.size<=b):
  qE β H nx w (ic β nx x) ((nx,aZ)::H) (nx+1) d nx aZ:=by
 refine⟨λk a=>?_,?_,f,λk a=>sY _ _ _ a,ae,ae,.inl ⟨MY m,Nat.le_refl _⟩,λb o h=>.inl (g b o h),λb c h=>.inl ?_⟩
 .rw[aw,ak (λe=>a e.symm)]
 .rw[aw,aq rfl]
 .rw[cp]at h;exact i b c h
def uD(m:Mem B w0 U0 β H nx w)(e:List DV)(a:Array Value)(T:TypeId)(l:a.size=e.length)
  (g:∀j y,e[j]?=some y->bg w (Own U0 β H) β H nx y (a.getD j undef)/\(a.getD j undef).oneCell'=true):
  Good B w0 U0 H nx β w (.ptr nx 0) ((nx,.var false e)::H) (nx+1) (.pointer (some ⟨w.heap.size,0,none⟩)) (w.alloc (.cells a T)):=by
 have u:qE β H nx w (ic β nx (some (w.heap.size,0))) ((nx,.var false e)::H) (nx+1) (w.alloc (.cells a T)) nx (.var false e):=
  qh m _ rfl _ _ (λb o h=>by rw[heap_alloc,ak (by have:=aO h;omega)];exact h) (λb c h=>by simp at h;omega)
 have i:=u.keeps (U0:=U0);have k:=u.cw;refine⟨_,u.mem m (iF m.bsize _) ⟨w.heap.size,0,a,T,cp _ _ _,m.bsize,by rw[heap_alloc,aq rfl],l,λj d f=>(g j d f).2,λj d f=>(g j d f).1.cw i k⟩,i,k,?_⟩;refine .ptr nx 0 _ ae rfl (λn p h=>⟨w.heap.size,0,cp _ _ _,rfl⟩) (λn q h=>?_);rw[aw,aq rfl]at h;cases h
def Rt(m:Mem B w0 U0 β H nx w):
  Good B w0 U0 H nx β w (.ptr nx 0) ((nx,.map false (.strs 0 λ_=>none))::H) (nx+1) (.map (some w.heap.size)) (w.alloc (.map #[] 0)):=by
 have u:qE β H nx w (ic β nx (some (w.heap.size,0))) ((nx,.map false (.strs 0 λ_=>none))::H) (nx+1) (w.alloc (.map #[] 0)) nx (.map false (.strs 0 λ_=>none)):=
  qh m _ rfl _ _ (λb o h=>by rw[heap_alloc,ak (by have:=aO h;omega)];exact h) (λb c h=>by simp at h;omega)
 have a:=u.keeps (U0:=U0);have d:=u.cw;refine⟨_,u.mem m (iF m.bsize _) ⟨w.heap.size,0,#[],0,cp _ _ _,m.bsize,by rw[heap_alloc,aq rfl],⟨rfl,az,az,az,az,λ_ _ h=>by cases h⟩⟩,a,d,?_⟩;refine .ptr nx 0 _ ae rfl (λe f h=>?_) (λe g h=>⟨w.heap.size,0,cp _ _ _,rfl⟩);rw[aw,aq rfl]at h;cases h
def DD(m:Mem B w0 U0 β H nx w)(d:Nat)(a:Option Addr):Good B w0 U0 H nx β w (.ref nx 0 0 0) ((nx,.row false d [])::H) (nx+1) (.slice a 0 0) w:=by
 have u:qE β H nx w (ic β nx none) ((nx,.row false d [])::H) (nx+1) w nx (.row false d []):=
  qh m _ rfl _ _ (λb o h=>h) (λb c h=>by cases h)
 refine⟨_,u.mem m (Below.refl _ _) (.inl ⟨rfl,cp _ _ _⟩),u.keeps,u.cw,.ref nx 0 0 0 _ ae rfl (λf e g h=>?_) (λf e g h=>by rw[aw,aq rfl]at h;cases h)⟩;rw[aw,aq rfl]at h;cases h;exact⟨Nat.le_refl _,λ_ _=>.inl ⟨rfl,cp _ _ _,a,rfl⟩⟩
structure kG(w:World)(U:Nat->Prop)(sz:Nat)(xs:List (List PV))(vs:Nat->Nat->Value):Prop where
 one:∀i x j y,xs[i]?=some x->x[j]?=some y->(vs i j).oneCell'=true
 rep:∀i x j y,xs[i]?=some x->x[j]?=some y->bN w U y (vs i j)
 sz:∀x∈xs,x.length=sz
def kG.lI{U:Nat->Prop}{c:World}{d:Nat->Prop}{e:Nat}{f:List (List PV)}{g:Nat->Nat->Value}(h:kG w U e f g)(k:eJ w U c d):kG c d e f g:=
 ⟨h.one,λi x j y a b=>(h.rep i x j y a b).lI k,h.sz⟩
def Kq(m:Mem B w0 U0 β H nx w)(g:Nat)(e:List (List PV))(l:Nat->Nat->Value)(a:Array Value)(d:Nat)(T:TypeId)(k:World)(f:k.heap=w.heap)(n:Below B w k)
  (v:a.size=d*g)(z:e.length<=d)(p:kG w (Own U0 β H) g e l)(A:∀i x j y,e[i]?=some x->x[j]?=some y->a[i*g+j]?=some (l i j)):
  Good B w0 U0 H nx β w (.ref nx e.length 0 e.length) ((nx,.row false g e)::H) (nx+1) (.slice (some ⟨w.heap.size,0,none⟩) e.length d) (k.alloc (.cells a T)):=by
 have u:qE β H nx w (ic β nx (some (w.heap.size,d))) ((nx,.row false g e)::H) (nx+1) (k.alloc (.cells a T)) nx (.row false g e):=
  qh m _ rfl _ _ (λb o h=>by rw[heap_alloc,f,ak (by have:=aO h;omega)];exact h) (λb c h=>by simp at h;omega)
 have t:=u.keeps (U0:=U0);have q:=u.cw;have C:Below B w (k.alloc (.cells a T)):=n.trans (iF (by rw[f];exact m.bsize) _);refine⟨_,u.mem m C (.inr ⟨w.heap.size,d,a,T,cp _ _ _,m.bsize,by rw[heap_alloc,f,aq rfl],v,z,p.sz,l,A,p.one,(p.lI t).rep⟩),t,q,?_⟩;refine .ref nx _ 0 _ _ ae rfl (λD r s h=>?_) (λD r s h=>by rw[aw,aq rfl]at h;cases h);rw[aw,aq rfl]at h;simp only[ay,bq.row.injEq]at h;obtain⟨_,rfl,rfl⟩:=h;exact⟨Nat.le_refl _,λ_ _=>.inr ⟨w.heap.size,d,some ⟨w.heap.size,0,none⟩,cp _ _ _,az,λ_=>az⟩⟩
def Hb(m:Mem B w0 U0 β H nx w)(d:Nat)(a:Option Addr):
  Good B w0 U0 H nx β w (.ref nx 0 0 0) ((nx,.row false d [])::H) (nx+1) (.slice a 0 0) w:=by
 have u:qE β H nx w (ic β nx none) ((nx,.row false d [])::H) (nx+1) w nx (.row false d []):=
  qh m _ rfl _ _ (λb o h=>h) (λb c h=>by simp at h)
 refine⟨_,u.mem m (Below.refl _ _) (.inl ⟨rfl,cp _ _ _⟩),u.keeps,u.cw,?_⟩;refine .ref nx _ 0 _ _ ae rfl (λg e f h=>?_) (λg e f h=>by rw[aw,aq rfl]at h;cases h);rw[aw,aq rfl]at h;simp only[ay,bq.row.injEq]at h;obtain⟨_,rfl,rfl⟩:=h;exact⟨Nat.le_refl _,λ_ _=>.inl ⟨rfl,cp _ _ _,a,rfl⟩⟩
def vV{a:Array Value}{o k:Nat}{l:List Value}(h:o+l.length<=a.size):
  (cI a o l).getD k undef=if o<=k/\k<o+l.length then l.getD (k-o) undef else a.getD k undef:=by
 rw[dH,fF _ _ _ _ h];split
 .simp
 .simp
def gm{d:Type}(l:List d)(a:Nat)(b:List d)(h:a+b.length<=l.length)(k:Nat):
  (putAt l a b)[k]?=if a<=k/\k<a+b.length then b[k-a]? else l[k]?:=by
 unfold putAt;have e:(l.take a).length=a:=by simp;omega
 by_cases f:k<a
 .rw[ak ae,List.append_assoc,List.getElem?_append_left ae,List.getElem?_take,aq f]
 .by_cases c:k<a+b.length
  .rw[aq ⟨ae,c⟩,List.getElem?_append_left (by simp;omega),List.getElem?_append_right ae,e]
  .rw[ak ae,List.getElem?_append_right (by simp;omega),List.getElem?_drop];congr 1;simp;omega
def eQ{b:Type}(l:List b)(a:Nat)(c:List b)(h:a+c.length<=l.length):(putAt l a c).length=l.length:=by
 simp[putAt];omega
def nR{id a:Nat}{p l:List DV}(m:Mem B w0 U0 β H nx w)(i:ag H id=some (.var false p)){x v:Value}(A:bg w (Own U0 β H) β H nx (.ptr id a) x)
  (K:a+l.length<=p.length)(q:v.cells.size=l.length)(L:∀j y,l[j]?=some y->bg w (Own U0 β H) β H nx y (v.cells.getD j undef)/\(v.cells.getD j undef).oneCell'=true)
  {t:TypeId}(Q:dJ P t l.length=true):
  ∃M,(Instr.storeAt t x v).run P w=.ok () M/\Good B w0 U0 H nx β w (.tuple []) (aC H id (.var false (putAt p a l))) nx undef M:=by
 cases A with
 |ptr _ _ _ hid V h=>
  obtain⟨b,c,C,rfl⟩:=h _ _ i;obtain⟨D,N,E,T,F,O,G,R,S,U⟩:=m.h.aZ id _ i;rw[C]at F;simp only[ay,bY]at F;obtain⟨rfl,rfl⟩:=F;have r:v.cells.toList.length=l.length:=by simpa using q
  have s:∀x∈v.cells.toList,x.oneCell'=true:=by
   intro x A;obtain⟨j,f,rfl⟩:=List.mem_iff_getElem.1 A;have:=(L j _ (List.getElem?_eq_getElem (by omega:j<l.length))).2;rw[dH]at this;simpa[nW (by simpa using f:j<v.cells.size)]using this
  have z:=th (P:=P) (t:=t) G Q q s (off:=a) ae;have I:=aO G;have u:qE β H nx w β (aC H id (.var false (putAt p a l))) nx (cA w b (cI E a v.cells.toList) T (0,0)) id (.var false (putAt p a l)):=by
   refine⟨λk n=>?_,?_,rfl,λk n=>rfl,Nat.le_refl _,hid,.inr ⟨_,i,rfl,rfl⟩,λD o h=>?_,λD N h=>.inr ⟨N,_,h,i⟩⟩
   .rw[aA,ak (λe=>n e.symm)]
   .rw[aA,aq rfl,i];rfl
   .by_cases e:b=D
    .subst e;exact .inr ⟨c,_,C,i⟩
    .left;rw[dO,ak (λx=>e x.1)];exact h
  have n:=u.keeps (U0:=U0);have J:=u.cw;refine⟨_,z,β,u.mem m (oB O G) ⟨b,c,_,T,C,O,by rw[dO,aq ⟨rfl,I⟩],by rw[bX,eQ _ _ _ K,R],?_,?_⟩,n,J,.undef⟩;all_goals
   intro j d f;rw[gm _ _ _ K]at f;rw[vV ae,r];split at f
   .rename_i g;rw[aq g];have:=L _ _ f;rw[dH]at this;rw[List.getD_eq_getElem?_getD,eG]
    first|exact this.2|exact this.1.cw n J
   .rename_i g;rw[ak g]
    first|exact S _ _ f|exact(U _ _ f).cw n J
def lv{id b d f:Nat}{C c:List (List PV)}{r a:Array Value}{T:TypeId}(m:Mem B w0 U0 β H nx w)(n:ag H id=some (.row false f C))(D:β id=some (b,d))
  (E:B<=b)(F:w.heap[b]?=some (.cells r T (0,0)))(s:a.size=d*f)(p:c.length<=d)(t:C.length<=c.length)(z:Nat->Nat->Value)(g:kG w (Own U0 β H) f c z)
  (J:∀i x j y,c[i]?=some x->x[j]?=some y->a[i*f+j]?=some (z i j))(v:DV)(x:Value)
  (K:∀(q:Heap),q=aC H id (.row false f c)->mn β H nx β q nx->eJ w (Own U0 β H) (cA w b a T (0,0)) (Own U0 β q)->bg (cA w b a T (0,0)) (Own U0 β q) β q nx v x):
  Good B w0 U0 H nx β w v (aC H id (.row false f c)) nx x (cA w b a T (0,0)):=by
 have A:=aO F;have u:qE β H nx w β (aC H id (.row false f c)) nx (cA w b a T (0,0)) id (.row false f c):=by
  refine⟨λk l=>?_,?_,rfl,λk l=>rfl,Nat.le_refl _,m.h.lt _ _ n,.inr ⟨_,n,rfl,rfl,t,λ_=>rfl⟩,λG o h=>?_,λG L h=>.inr ⟨L,_,h,n⟩⟩
  .rw[aA,ak (λe=>l e.symm)]
  .rw[aA,aq rfl,n];rfl
  .by_cases e:b=G
   .subst e;exact .inr ⟨d,_,D,n⟩
   .left;rw[dO,ak (λx=>e x.1)];exact h
 have l:=u.keeps (U0:=U0);have I:=u.cw;exact⟨β,u.mem m (oB E F) (.inr ⟨b,d,a,T,D,E,by rw[dO,aq ⟨rfl,A⟩],s,p,g.sz,z,J,g.one,(g.lI l).rep⟩),l,I,K _ rfl I l⟩
def G0{a:Array Value}{j:Nat}{v:Value}(h:a[j]?=some v):j<a.size:=by
 rcases bS j a.size with b|b
 .exact b
 .simp[ug b]at h
def I0{id r i a:Nat}{k:Nat}{J:List (List PV)}{y l:List PV}(m:Mem B w0 U0 β H nx w)(K:ag H id=some (.row false k J))(s:r=J.length)(u:J[i]?=some y)
  {x v:Value}(L:bg w (Own U0 β H) β H nx (.dA id r i a) x)(A:a+l.length<=y.length)
  (C:v.cells.size=l.length)(M:∀j p,l[j]?=some p->bN w (Own U0 β H) p (v.cells.getD j undef)/\(v.cells.getD j undef).oneCell'=true){t:TypeId}(hs:dJ P t l.length=true):
  ∃X,(Instr.storeAt t x v).run P w=.ok () X/\Good B w0 U0 H nx β w (.tuple []) (aC H id (.row false k (J.set i (putAt y a l)))) nx undef X:=by
 have o:=aN u;cases L with
 |dA _ _ _ _ _ hid hc h=>
  obtain⟨b,c,N,rfl⟩:=(h _ _ _ K).2 s o;rcases m.h.aZ id _ K with⟨x4,D⟩|⟨b',x5,O,T,Q,h2,Y,Z,h5,R,vs,h7,h8,h9⟩
  .rw[N]at D;cases D
  .rw[N]at Q;simp only[ay,bY]at Q;obtain⟨rfl,rfl⟩:=Q;have hy:y.length=k:=R y (List.mem_of_getElem? u);have E:v.cells.toList.length=l.length:=by simpa using C
   have F:∀x∈v.cells.toList,x.oneCell'=true:=by
    intro x L;obtain⟨j,S,rfl⟩:=List.mem_iff_getElem.1 L;have:=(M j _ (List.getElem?_eq_getElem (by omega:j<l.length))).2;rw[dH]at this;simpa[nW (by simpa using S:j<v.cells.size)]using this
   have G:i*k+a+l.length<=O.size:=by
    rw[Z];have:(i+1)*k<=c*k:=di _ ae;rw[dB,ir]at this;omega
   have I:=th (P:=P) (t:=t) Y hs C F (off:=i*k+a) G;refine⟨_,I,lv m K N h2 Y (by rw[bX,Z]) (by simpa using h5) az
    (λn j=>if n=i/\a<=j/\j<a+l.length then v.cells.getD (j-a) undef else vs n j) ⟨?_,?_,?_⟩ ?_ _ _ (λ_ _ _ _=>.undef)⟩
   .intro n z j q f g;by_cases e:n=i
    .subst e;rw[List.getElem?_set_self o]at f;cases f;rw[gm _ _ _ A]at g;split at g
     .rename_i d;rw[aq ⟨rfl,d⟩];exact(M _ _ g).2
     .rename_i d;rw[ak (λe=>d e.2)];exact h8 _ _ _ _ u g
    .rw[List.getElem?_set_ne (λh=>e h.symm)]at f;rw[ak (λh=>e h.1)];exact h8 _ _ _ _ f g
   .intro n z j q f g;by_cases e:n=i
    .subst e;rw[List.getElem?_set_self o]at f;cases f;rw[gm _ _ _ A]at g;split at g
     .rename_i d;rw[aq ⟨rfl,d⟩];exact(M _ _ g).1
     .rename_i d;rw[ak (λe=>d e.2)];exact h9 _ _ _ _ u g
    .rw[List.getElem?_set_ne (λh=>e h.symm)]at f;rw[ak (λh=>e h.1)];exact h9 _ _ _ _ f g
   .intro z f;rcases List.mem_or_eq_of_mem_set f with f|rfl
    .exact R z f
    .rw[eQ _ _ _ A,hy]
   .intro n z j q f g;rw[fF _ _ _ _ ae,E];by_cases e:n=i
    .subst e;rw[List.getElem?_set_self o]at f;cases f;have S:j<k:=by have:=aN g;rw[eQ _ _ _ A]at this;omega
     rw[gm _ _ _ A]at g;split at g
     .rename_i d;rw[aq ⟨ae,ae⟩,aq ⟨rfl,d⟩];have U:j-a<v.cells.size:=ae;rw[eG,show n*k+j-(n*k+a)=j-a from ae,iL U]
     .rename_i d;rw[ak ae,ak (λe=>d e.2)];exact h7 _ _ _ _ u g
    .rw[List.getElem?_set_ne (λh=>e h.symm)]at f;have S:j<k:=by have:=aN g;rw[R z (List.mem_of_getElem? f)]at this;exact this
     rw[ak,ak (λh=>e h.1)]
     .exact h7 _ _ _ _ f g
     .rintro⟨ha,xa⟩;rcases G5 e with V|W
      .have:(n+1)*k<=i*k:=di _ V;rw[dB,ir]at this;omega
      .have:(i+1)*k<=n*k:=di _ W;rw[dB,ir]at this;omega
structure iH(w:World)(U:Nat->Prop)(β:Place)(H:Heap)(nx:Nat)(sz:Nat)(xs:List (List DV))(vs:Nat->Nat->Value):Prop where
 one:∀i x j y,xs[i]?=some x->x[j]?=some y->(vs i j).oneCell'=true
 rep:∀i x j y,xs[i]?=some x->x[j]?=some y->bg w U β H nx y (vs i j)
 sz:∀x∈xs,x.length=sz
def iH.cw{e:World}{U f:Nat->Prop}{c:Place}{g:Heap}{d:Nat}{k:Nat}{l:List (List DV)}{m:Nat->Nat->Value}(h:iH w U β H nx k l m)(n:eJ w U e f)(o:mn β H nx c g d):iH e f c g d k l m:=
 ⟨h.one,λi x j y a b=>(h.rep i x j y a b).cw n o,h.sz⟩
def Rc(m:Mem B w0 U0 β H nx w)(d:Nat)(a:Option Addr):Good B w0 U0 H nx β w (.ref nx 0 0 0) ((nx,.aV false d [])::H) (nx+1) (.slice a 0 0) w:=by
 have u:qE β H nx w (ic β nx none) ((nx,.aV false d [])::H) (nx+1) w nx (.aV false d []):=
  qh m _ rfl _ _ (λb o h=>h) (λb c h=>by cases h)
 refine⟨_,u.mem m (Below.refl _ _) (.inl ⟨rfl,cp _ _ _⟩),u.keeps,u.cw,.ref nx 0 0 0 _ ae rfl (λf e g h=>by rw[aw,aq rfl]at h;cases h) (λf e g h=>?_)⟩;rw[aw,aq rfl]at h;cases h;exact⟨Nat.le_refl _,λ_ _=>.inl ⟨rfl,cp _ _ _,a,rfl⟩⟩
def QT(m:Mem B w0 U0 β H nx w)(g:Nat)(e:List (List DV))(n:Nat->Nat->Value)(a:Array Value)(d:Nat)(T:TypeId)(k:World)(f:k.heap=w.heap)(p:Below B w k)
  (v:a.size=d*g)(z:e.length<=d)(q:iH w (Own U0 β H) β H nx g e n)(A:∀i x j y,e[i]?=some x->x[j]?=some y->a[i*g+j]?=some (n i j)):
  Good B w0 U0 H nx β w (.ref nx e.length 0 e.length) ((nx,.aV false g e)::H) (nx+1) (.slice (some ⟨w.heap.size,0,none⟩) e.length d) (k.alloc (.cells a T)):=by
 have u:qE β H nx w (ic β nx (some (w.heap.size,d))) ((nx,.aV false g e)::H) (nx+1) (k.alloc (.cells a T)) nx (.aV false g e):=
  qh m _ rfl _ _ (λb o h=>by rw[heap_alloc,f,ak (by have:=aO h;omega)];exact h) (λb c h=>by simp at h;omega)
 have t:=u.keeps (U0:=U0);have l:=u.cw;have C:Below B w (k.alloc (.cells a T)):=p.trans (iF (by rw[f];exact m.bsize) _);refine⟨_,u.mem m C (.inr ⟨w.heap.size,d,a,T,cp _ _ _,m.bsize,by rw[heap_alloc,f,aq rfl],v,z,q.sz,n,A,q.one,(q.cw t l).rep⟩),t,l,?_⟩;refine .ref nx _ 0 _ _ ae rfl (λD r s h=>by rw[aw,aq rfl]at h;cases h) (λD r s h=>?_);rw[aw,aq rfl]at h;simp only[ay,bq.aV.injEq]at h;obtain⟨_,rfl,rfl⟩:=h;exact⟨Nat.le_refl _,λ_ _=>.inr ⟨w.heap.size,d,some ⟨w.heap.size,0,none⟩,cp _ _ _,az,λ_=>az⟩⟩
def rq{id b d f:Nat}{D c:List (List DV)}{r a:Array Value}{T:TypeId}(m:Mem B w0 U0 β H nx w)(n:ag H id=some (.aV false f D))(E:β id=some (b,d))
  (F:B<=b)(G:w.heap[b]?=some (.cells r T (0,0)))(s:a.size=d*f)(p:c.length<=d)(t:D.length<=c.length)(z:Nat->Nat->Value)(g:iH w (Own U0 β H) β H nx f c z)
  (J:∀i x j y,c[i]?=some x->x[j]?=some y->a[i*f+j]?=some (z i j))(v:DV)(x:Value)
  (K:∀(q:Heap),q=aC H id (.aV false f c)->mn β H nx β q nx->eJ w (Own U0 β H) (cA w b a T (0,0)) (Own U0 β q)->bg (cA w b a T (0,0)) (Own U0 β q) β q nx v x):
  Good B w0 U0 H nx β w v (aC H id (.aV false f c)) nx x (cA w b a T (0,0)):=by
 have A:=aO G;have u:qE β H nx w β (aC H id (.aV false f c)) nx (cA w b a T (0,0)) id (.aV false f c):=by
  refine⟨λk l=>?_,?_,rfl,λk l=>rfl,Nat.le_refl _,m.h.lt _ _ n,.inr ⟨_,n,rfl,rfl,t,λ_=>rfl⟩,λI o h=>?_,λI L h=>.inr ⟨L,_,h,n⟩⟩
  .rw[aA,ak (λe=>l e.symm)]
  .rw[aA,aq rfl,n];rfl
  .by_cases e:b=I
   .subst e;exact .inr ⟨d,_,E,n⟩
   .left;rw[dO,ak (λx=>e x.1)];exact h
 have l:=u.keeps (U0:=U0);have C:=u.cw;exact⟨β,u.mem m (oB F G) (.inr ⟨b,d,a,T,E,F,by rw[dO,aq ⟨rfl,A⟩],s,p,g.sz,z,J,g.one,(g.cw l C).rep⟩),l,C,K _ rfl C l⟩
def HP{id r i a:Nat}{k:Nat}{J:List (List DV)}{y l:List DV}(m:Mem B w0 U0 β H nx w)(K:ag H id=some (.aV false k J))(s:r=J.length)(u:J[i]?=some y)
  {x v:Value}(L:bg w (Own U0 β H) β H nx (.dA id r i a) x)(A:a+l.length<=y.length)
  (C:v.cells.size=l.length)(M:∀j p,l[j]?=some p->bg w (Own U0 β H) β H nx p (v.cells.getD j undef)/\(v.cells.getD j undef).oneCell'=true){t:TypeId}(hs:dJ P t l.length=true):
  ∃X,(Instr.storeAt t x v).run P w=.ok () X/\Good B w0 U0 H nx β w (.tuple []) (aC H id (.aV false k (J.set i (putAt y a l)))) nx undef X:=by
 have o:=aN u;cases L with
 |dA _ _ _ _ _ hid hc _ h=>
  obtain⟨b,c,N,rfl⟩:=(h _ _ _ K).2 s o;rcases m.h.aZ id _ K with⟨x4,D⟩|⟨b',x5,O,T,Q,h2,Y,Z,h5,R,vs,h7,h8,h9⟩
  .rw[N]at D;cases D
  .rw[N]at Q;simp only[ay,bY]at Q;obtain⟨rfl,rfl⟩:=Q;have hy:y.length=k:=R y (List.mem_of_getElem? u);have E:v.cells.toList.length=l.length:=by simpa using C
   have F:∀x∈v.cells.toList,x.oneCell'=true:=by
    intro x L;obtain⟨j,S,rfl⟩:=List.mem_iff_getElem.1 L;have:=(M j _ (List.getElem?_eq_getElem (by omega:j<l.length))).2;rw[dH]at this;simpa[nW (by simpa using S:j<v.cells.size)]using this
   have G:i*k+a+l.length<=O.size:=by
    rw[Z];have:(i+1)*k<=c*k:=di _ ae;rw[dB,ir]at this;omega
   have I:=th (P:=P) (t:=t) Y hs C F (off:=i*k+a) G;refine⟨_,I,rq m K N h2 Y (by rw[bX,Z]) (by simpa using h5) az
    (λn j=>if n=i/\a<=j/\j<a+l.length then v.cells.getD (j-a) undef else vs n j) ⟨?_,?_,?_⟩ ?_ _ _ (λ_ _ _ _=>.undef)⟩
   .intro n z j q f g;by_cases e:n=i
    .subst e;rw[List.getElem?_set_self o]at f;cases f;rw[gm _ _ _ A]at g;split at g
     .rename_i d;rw[aq ⟨rfl,d⟩];exact(M _ _ g).2
     .rename_i d;rw[ak (λe=>d e.2)];exact h8 _ _ _ _ u g
    .rw[List.getElem?_set_ne (λh=>e h.symm)]at f;rw[ak (λh=>e h.1)];exact h8 _ _ _ _ f g
   .intro n z j q f g;by_cases e:n=i
    .subst e;rw[List.getElem?_set_self o]at f;cases f;rw[gm _ _ _ A]at g;split at g
     .rename_i d;rw[aq ⟨rfl,d⟩];exact(M _ _ g).1
     .rename_i d;rw[ak (λe=>d e.2)];exact h9 _ _ _ _ u g
    .rw[List.getElem?_set_ne (λh=>e h.symm)]at f;rw[ak (λh=>e h.1)];exact h9 _ _ _ _ f g
   .intro z f;rcases List.mem_or_eq_of_mem_set f with f|rfl
    .exact R z f
    .rw[eQ _ _ _ A,hy]
   .intro n z j q f g;rw[fF _ _ _ _ ae,E];by_cases e:n=i
    .subst e;rw[List.getElem?_set_self o]at f;cases f;have S:j<k:=by have:=aN g;rw[eQ _ _ _ A]at this;omega
     rw[gm _ _ _ A]at g;split at g
     .rename_i d;rw[aq ⟨ae,ae⟩,aq ⟨rfl,d⟩];have U:j-a<v.cells.size:=ae;rw[eG,show n*k+j-(n*k+a)=j-a from ae,iL U]
     .rename_i d;rw[ak ae,ak (λe=>d e.2)];exact h7 _ _ _ _ u g
    .rw[List.getElem?_set_ne (λh=>e h.symm)]at f;have S:j<k:=by have:=aN g;rw[R z (List.mem_of_getElem? f)]at this;exact this
     rw[ak,ak (λh=>e h.1)]
     .exact h7 _ _ _ _ f g
     .rintro⟨ha,xa⟩;rcases G5 e with V|W
      .have:(n+1)*k<=i*k:=di _ V;rw[dB,ir]at this;omega
      .have:(i+1)*k<=n*k:=di _ W;rw[dB,ir]at this;omega
end
end
end Go.Dv
