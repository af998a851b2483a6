/- Lemmas for the law of this claim. -/
import Derived.Test.YtcphhjkcgikdgaaGreatDoorP03
import Derived.Deep.AppendSrc
set_option linter.all false
namespace Go.Dv
section
open Go.RowKit
def EP(b:Array Value)(a n j:Nat)(h:j<n)(d:a+n<=b.size):(b.extract a (a+n)).getD j undef=b.getD (a+j) undef:=by
 have c:j<min (a+n) b.size-a:=ae;rw[dA,dA,Q4,aq c]
def tT{a:Array Value}{j:Nat}{v:Value}(h:a[j]?=some v):a.getD j undef=v:=by simp[dA,h]
def iC{a:Array Value}{j:Nat}(h:j<a.size):a[j]?=some (a.getD j undef):=by simp[h]
def aL{b:Type}{l:List b}{j:Nat}{v:b}(h:l[j]?=some v):j<l.length:=by
 rcases cK j l.length with a|a
 .exact a
 .simp[List.getElem?_eq_none a]at h
section
variable{P:Program}{w:World}
def run_sizeOf{t:TypeId}{n:Nat}(h:dC P t n=true)(w:World):(sizeOf t).run P w=.ok n w:=by
 unfold dC at h;split at h
 .rename_i i a;simp at h;simp[sizeOf,typeInfo,a,h]
 .cases h
def rY{t:TypeId}{b:Bool}(h:iN P t=some b)(w:World):(isAgg t).run P w=.ok b w:=by
 unfold iN at h;split at h
 .rename_i a;cases h;simp[isAgg,run_underlying a]
 .rename_i a;cases h;simp[isAgg,run_underlying a]
 .rename_i d c e a;cases h;simp only[isAgg,Sem.run_bind,run_underlying a,Result.andThen_ok];rfl
 .cases h
def pZ{t:TypeId}(h:zP P t none=true):iN P t=some false:=by
 unfold zP at h;simp only at h;split at h
 .assumption
 .cases h
def qd{t:TypeId}{n:Nat}(h:zP P t (some n)=true):iN P t=some true/\dC P t n=true/\0<n:=by
 unfold zP at h;simp only[aO,cp]at h;refine⟨?_,h.1.2,h.2⟩;have:=h.1.1;split at this
 .assumption
 .cases this
def wE{t:TypeId}{b a:Nat}{c:Array Value}{T:TypeId}{d:Nat×Nat}{v:Value}(e:w.heap[b]?=some (.cells c T d))(f:c[a]?=some v)
  (g:iN P t=some false):(Instr.loadAt t (.pointer (some ⟨b,a,none⟩))).run P w=.ok v w:=by
 simp[Instr.loadAt,Instr.sureAddr,loadVar,rY g,bT e f]
def BA{t:TypeId}{b a n:Nat}{c:Array Value}{T:TypeId}{d:Nat×Nat}(e:w.heap[b]?=some (.cells c T d))(f:a+n<=c.size)
  (g:iN P t=some true)(h:dC P t n=true):(Instr.loadAt t (.pointer (some ⟨b,a,none⟩))).run P w=.ok (.agg (c.extract a (a+n))) w:=by
 simp[Instr.loadAt,Instr.sureAddr,loadVar,rY g,run_sizeOf h,run_loadCells e f]
def rF{t:TypeId}{b off n:Nat}{a:Array Value}{T:TypeId}{v:Value}(c:w.heap[b]?=some (.cells a T (0,0)))(d:dC P t n=true)
  (e:v.cells.size=n)(f:∀x∈v.cells.toList,x.oneCell'=true)(g:off+n<=a.size):
  (Instr.storeAt t (.pointer (some ⟨b,off,none⟩)) v).run P w=.ok () (cu w b (cA a off v.cells.toList) T (0,0)):=by
 have:=j1 (P:=P) (b:=b) (off:=off) (T:=T) v.cells.toList 0 w a c f (by simp;omega);simp only[Instr.storeAt,Instr.sureAddr,storeVar,Sem.run_bind,Sem.run_pure,Result.andThen_ok,run_sizeOf d,e,ne_eq,not_true_eq_false,cy,this];rfl
end
section
variable{U:Nat->Prop}{β:Place}{H:Heap}{nx:Nat}{w:World}
def kC{c:Type}{b l:List c}{a n:Nat}(h:dR b a n=some l):l=(b.drop a).take n/\a+n<=b.length\/n=0/\l=[]:=by
 unfold dR at h;simp only at h;split at h
 .rename_i d;cases h;simp at d;by_cases e:n=0
  .right;subst e;simp
  .left;exact⟨rfl,ae⟩
 .cases h
def qM{d:DV}{l:List DV}(h:d.cells=some l){x:Value}(m:bj w U β H nx d x):
  x.cells.size=l.length/\∀j y,l[j]?=some y->bj w U β H nx y (x.cells.getD j undef)/\(x.cells.getD j undef).oneCell'=true:=by
 have a:d.iz=true->l=[d]->x.cells=#[x]->x.cells.size=l.length/\∀j y,l[j]?=some y->bj w U β H nx y (x.cells.getD j undef)/\(x.cells.getD j undef).oneCell'=true:=by
  intro b e t;rw[t,e];refine⟨rfl,λj y c=>?_⟩;cases j with
  |zero=>simp only[List.getElem?_cons_zero,aw]at c;subst c;exact⟨m,m.xV b⟩
  |succ j=>simp at c
 cases m with
 |agg A r e u o=>
  simp only[DV.cells,aw]at h;subst h;exact⟨e,λj y c=>⟨o j y c,u j y c⟩⟩
 |tuple=>simp[DV.cells,DV.iz]at h
 |p v x z=>
  simp only[DV.cells]at h;split at h
  .rename_i b;cases h;refine a b rfl ?_;cases z<;>first|rfl|simp[DV.iz,PV.iz]at b
  .cases h
 |ref id q g n v hid b s|ptr id g v hid b s|du id q i g v hid b s=>
  simp only[DV.cells,DV.iz,bZ,aw]at h;refine a rfl h.symm ?_;cases x<;>first|rfl|simp[Value.oneCell']at b
 |func f k r e o|kh f k r e o=>
  simp only[DV.cells,DV.iz,bZ,aw]at h;exact a rfl h.symm rfl
def Cl{p:PV}{l:List PV}(h:p.cellsOf=some l){x:Value}(c:bP w U p x):
  x.cells.size=l.length/\∀j y,l[j]?=some y->bP w U y (x.cells.getD j undef)/\(x.cells.getD j undef).oneCell'=true:=by
 have a:p.iz=true->l=[p]->x.cells=#[x]->x.cells.size=l.length/\∀j y,l[j]?=some y->bP w U y (x.cells.getD j undef)/\(x.cells.getD j undef).oneCell'=true:=by
  intro e d f;rw[f,d];refine⟨rfl,λj y b=>?_⟩;cases j with
  |zero=>simp only[List.getElem?_cons_zero,aw]at b;subst b;exact⟨c,c.xV e⟩
  |succ j=>simp at b
 cases c with
 |agg k m d g i=>
  simp only[PV.cellsOf,aw]at h;subst h;exact⟨d,λj y b=>⟨i j y b,g j y b⟩⟩
 |tuple|undef=>simp[PV.cellsOf,PV.iz]at h
 |int|bool|str|none|slice|eN|func|z|map|iface=>simp only[PV.cellsOf,PV.iz,bZ,aw]at h;exact a rfl h.symm rfl
end
def ri(w:World)(x:Value)(n:Nat)(R:Nat->Value->Prop):Prop:=
 ∃b a c T d,x=.pointer (some ⟨b,a,none⟩)/\w.heap[b]?=some (.cells c T d)/\a+n<=c.size/\∀j,j<n->(c.getD (a+j) undef).oneCell'=true/\R j (c.getD (a+j) undef)
section
variable{P:Program}{B:Nat}{w0:World}{U0:Nat->Prop}{β:Place}{H:Heap}{nx:Nat}{w:World}
def oJ{x:Value}{n:Nat}{R:Nat->Value->Prop}(h:ri w x n R)(c:0<n){t:TypeId}(d:iN P t=some false):
  ∃v,(Instr.loadAt t x).run P w=.ok v w/\R 0 v:=by
 obtain⟨b,a,e,T,g,rfl,f,i,hR⟩:=h;exact⟨_,wE f (iC (j:=a) ae) d,(hR 0 c).2⟩
def ry{x:Value}{n:Nat}{R:Nat->Value->Prop}(h:ri w x n R){t:TypeId}(e:iN P t=some true)(f:dC P t n=true):
  ∃a:Array Value,(Instr.loadAt t x).run P w=.ok (.agg a) w/\a.size=n/\∀j,j<n->(a.getD j undef).oneCell'=true/\R j (a.getD j undef):=by
 obtain⟨b,g,i,T,l,rfl,k,c,hR⟩:=h;refine⟨_,BA k c e f,by simp;omega,λj d=>?_⟩;rw[EP _ _ _ _ d c];exact hR j d
def rE{id a:Nat}{o:Bool}{e:List DV}(m:Mem B w0 U0 β H nx w)(k:ah H id=some (.var o e)){x:Value}(p:bj w (Own U0 β H) β H nx (.ptr id a) x)
  {n:Nat}(y:a+n<=e.length):ri w x n (λj v=>∀d,e[a+j]?=some d->bj w (Own U0 β H) β H nx d v):=by
 cases p with
 |ptr _ _ _ hid l h=>
  obtain⟨b,c,q,rfl⟩:=h _ _ k;obtain⟨z,A,f,T,g,C,r,D,s,t⟩:=m.h.aY id _ k;rw[q]at g;simp only[aw,bQ]at g;obtain⟨rfl,rfl⟩:=g;refine⟨b,a,f,T,(0,0),rfl,r,ae,λj E=>?_⟩;have i:a+j<e.length:=ae;have l:=List.getElem?_eq_getElem i;exact⟨s _ _ l,λd u=>t _ _ u⟩
def AQ{U:Nat->Prop}{c:List PV}{x:Value}(i:bP w U (.eN c) x){n:Nat}(t:n<=c.length)(u:0<n):
  ri w x n (λj v=>∀d,c[j]?=some d->bP w U d v):=by
 cases i with
 |eN _ b o a T k l m y f p q=>
  have e:∀j,j<n->a.getD (o+j) undef=l j:=λj g=>tT (f j _ (List.getElem?_eq_getElem ae))
  refine⟨b,o,a,T,k,rfl,m,?_,λj g=>?_⟩
  .have:=f (n-1) _ (List.getElem?_eq_getElem ae);rcases cK (o+(n-1)) a.size with h|h
   .omega
   .rw[tN h]at this;cases this
  .rw[e j g];have r:c[j]?=some (c[j]'ae):=List.getElem?_eq_getElem ae;exact⟨p j _ r,λd s=>q j d s⟩
def A4{id f i a:Nat}{D:Bool}{o:Nat}{q:List (List PV)}{y:List PV}(m:Mem B w0 U0 β H nx w)(s:ah H id=some (.row D o q))(g:f=q.length)
  (p:q[i]?=some y){x:Value}(E:bj w (Own U0 β H) β H nx (.du id f i a) x){n:Nat}(N:a+n<=y.length)(O:0<n):
  ri w x n (λj v=>∀d,y[a+j]?=some d->bP w (Own U0 β H) d v):=by
 cases E with
 |du _ _ _ _ _ hid t h _=>
  obtain⟨b,c,u,rfl⟩:=(h _ _ _ s).2 g (aL p);rcases m.h.aY id _ s with⟨F,k⟩|⟨Q,z,e,T,r,R,G,S,V,W,I,J,K,L⟩
  .rw[u]at k;cases k
  .rw[u]at r;simp only[aw,bQ]at r;obtain⟨rfl,rfl⟩:=r;have l:∀j,j<n->e[i*o+a+j]?=some (I i (a+j)):=λj A=>by
    have:=J i y (a+j) _ p (List.getElem?_eq_getElem ae);rw[<-Nat.add_assoc]at this;exact this
   refine⟨b,i*o+a,e,T,(0,0),rfl,G,?_,λj A=>?_⟩
   .have:=l (n-1) ae;rcases cK (i*o+a+(n-1)) e.size with C|C
    .omega
    .rw[tN C]at this;cases this
   .rw[tT (l j A)];have t:y[a+j]?=some (y[a+j]'ae):=List.getElem?_eq_getElem ae;exact⟨K i y _ _ p t,λd M=>L i y _ d p M⟩
def wW{id f i a:Nat}{D:Bool}{o:Nat}{q:List (List DV)}{y:List DV}(m:Mem B w0 U0 β H nx w)(s:ah H id=some (.bh D o q))(g:f=q.length)
  (p:q[i]?=some y){x:Value}(E:bj w (Own U0 β H) β H nx (.du id f i a) x){n:Nat}(N:a+n<=y.length)(O:0<n):
  ri w x n (λj v=>∀d,y[a+j]?=some d->bj w (Own U0 β H) β H nx d v):=by
 cases E with
 |du _ _ _ _ _ hid t _ h=>
  obtain⟨b,c,u,rfl⟩:=(h _ _ _ s).2 g (aL p);rcases m.h.aY id _ s with⟨F,k⟩|⟨Q,z,e,T,r,R,G,S,V,W,I,J,K,L⟩
  .rw[u]at k;cases k
  .rw[u]at r;simp only[aw,bQ]at r;obtain⟨rfl,rfl⟩:=r;have l:∀j,j<n->e[i*o+a+j]?=some (I i (a+j)):=λj A=>by
    have:=J i y (a+j) _ p (List.getElem?_eq_getElem ae);rw[<-Nat.add_assoc]at this;exact this
   refine⟨b,i*o+a,e,T,(0,0),rfl,G,?_,λj A=>?_⟩
   .have:=l (n-1) ae;rcases cK (i*o+a+(n-1)) e.size with C|C
    .omega
    .rw[tN C]at this;cases this
   .rw[tT (l j A)];have t:y[a+j]?=some (y[a+j]'ae):=List.getElem?_eq_getElem ae;exact⟨K i y _ _ p t,λd M=>L i y _ d p M⟩
end
end
section
open Go.RowKit
section
variable{P:Program}{B:Nat}{w0:World}{U0:Nat->Prop}{β:Place}{H:Heap}{nx:Nat}{w:World}
def Nl(m:Mem B w0 U0 β H nx w):ah H nx=none:=by
 cases h:ah H nx with
 |none=>rfl
 |some b=>exact absurd (m.h.lt _ _ h) (Nat.lt_irrefl _)
def gS(β:Place)(id:Nat)(x:Option (Nat×Nat)):Place:=λk=>if k=id then x else β k
def b7(β:Place)(id:Nat)(x:Option (Nat×Nat)):gS β id x id=x:=by simp[gS]
def rW(β:Place)(id:Nat)(x:Option (Nat×Nat)){k:Nat}(h:k≠id):gS β id x k=β k:=by simp[gS,h]
def pt(m:Mem B w0 U0 β H nx w)(aY:ca)(f:aY.fz=false)(d:World)(x:Option (Nat×Nat))(g:∀(b:Nat) (o:Obj),w.heap[b]?=some o->d.heap[b]?=some o)(i:∀(b c:Nat),x=some (b,c)->w.heap.size<=b):
  pR β H nx w (gS β nx x) ((nx,aY)::H) (nx+1) d nx aY:=by
 refine⟨λk a=>?_,?_,f,λk a=>rW _ _ _ a,ae,ae,.inl ⟨Nl m,Nat.le_refl _⟩,λb o h=>.inl (g b o h),λb c h=>.inl ?_⟩
 .rw[aP,an (λe=>a e.symm)]
 .rw[aP,aq rfl]
 .rw[b7]at h;exact i b c h
def sW(m:Mem B w0 U0 β H nx w)(e:List DV)(a:Array Value)(T:TypeId)(l:a.size=e.length)
  (g:∀j y,e[j]?=some y->bj w (Own U0 β H) β H nx y (a.getD j undef)/\(a.getD j undef).oneCell'=true):
  Good B w0 U0 H nx β w (.ptr nx 0) ((nx,.var false e)::H) (nx+1) (.pointer (some ⟨w.heap.size,0,none⟩)) (w.alloc (.cells a T)):=by
 have u:pR β H nx w (gS β nx (some (w.heap.size,0))) ((nx,.var false e)::H) (nx+1) (w.alloc (.cells a T)) nx (.var false e):=
  pt m _ rfl _ _ (λb o h=>by rw[heap_alloc,an (by have:=aM h;omega)];exact h) (λb c h=>by simp at h;omega)
 have i:=u.keeps (U0:=U0);have k:=u.cn;refine⟨_,u.mem m (ix m.bsize _) ⟨w.heap.size,0,a,T,b7 _ _ _,m.bsize,by rw[heap_alloc,aq rfl],l,λj d f=>(g j d f).2,λj d f=>(g j d f).1.cn i k⟩,i,k,?_⟩;refine .ptr nx 0 _ ae rfl (λn p h=>⟨w.heap.size,0,b7 _ _ _,rfl⟩) (λn q h=>?_);rw[aP,aq rfl]at h;cases h
def Ox(m:Mem B w0 U0 β H nx w):
  Good B w0 U0 H nx β w (.ptr nx 0) ((nx,.map false (.strs 0 λ_=>none))::H) (nx+1) (.map (some w.heap.size)) (w.alloc (.map #[] 0)):=by
 have u:pR β H nx w (gS β nx (some (w.heap.size,0))) ((nx,.map false (.strs 0 λ_=>none))::H) (nx+1) (w.alloc (.map #[] 0)) nx (.map false (.strs 0 λ_=>none)):=
  pt m _ rfl _ _ (λb o h=>by rw[heap_alloc,an (by have:=aM h;omega)];exact h) (λb c h=>by simp at h;omega)
 have a:=u.keeps (U0:=U0);have d:=u.cn;refine⟨_,u.mem m (ix m.bsize _) ⟨w.heap.size,0,#[],0,b7 _ _ _,m.bsize,by rw[heap_alloc,aq rfl],⟨rfl,aB,aB,aB,aB,λ_ _ h=>by cases h⟩⟩,a,d,?_⟩;refine .ptr nx 0 _ ae rfl (λe f h=>?_) (λe g h=>⟨w.heap.size,0,b7 _ _ _,rfl⟩);rw[aP,aq rfl]at h;cases h
def B5(m:Mem B w0 U0 β H nx w)(d:Nat)(a:Option Addr):Good B w0 U0 H nx β w (.ref nx 0 0 0) ((nx,.row false d [])::H) (nx+1) (.slice a 0 0) w:=by
 have u:pR β H nx w (gS β nx none) ((nx,.row false d [])::H) (nx+1) w nx (.row false d []):=
  pt m _ rfl _ _ (λb o h=>h) (λb c h=>by cases h)
 refine⟨_,u.mem m (Below.refl _ _) (.inl ⟨rfl,b7 _ _ _⟩),u.keeps,u.cn,.ref nx 0 0 0 _ ae rfl (λf e g h=>?_) (λf e g h=>by rw[aP,aq rfl]at h;cases h)⟩;rw[aP,aq rfl]at h;cases h;exact⟨Nat.le_refl _,λ_ _=>.inl ⟨rfl,b7 _ _ _,a,rfl⟩⟩
structure kc(w:World)(U:Nat->Prop)(sz:Nat)(xs:List (List PV))(vs:Nat->Nat->Value):Prop where
 one:∀i x j y,xs[i]?=some x->x[j]?=some y->(vs i j).oneCell'=true
 rep:∀i x j y,xs[i]?=some x->x[j]?=some y->bP w U y (vs i j)
 sz:∀x∈xs,x.length=sz
def kc.lx{U:Nat->Prop}{c:World}{d:Nat->Prop}{e:Nat}{f:List (List PV)}{g:Nat->Nat->Value}(h:kc w U e f g)(k:dT w U c d):kc c d e f g:=
 ⟨h.one,λi x j y a b=>(h.rep i x j y a b).lx k,h.sz⟩
def I7(m:Mem B w0 U0 β H nx w)(g:Nat)(e:List (List PV))(l:Nat->Nat->Value)(a:Array Value)(d:Nat)(T:TypeId)(k:World)(f:k.heap=w.heap)(n:Below B w k)
  (v:a.size=d*g)(z:e.length<=d)(p:kc w (Own U0 β H) g e l)(A:∀i x j y,e[i]?=some x->x[j]?=some y->a[i*g+j]?=some (l i j)):
  Good B w0 U0 H nx β w (.ref nx e.length 0 e.length) ((nx,.row false g e)::H) (nx+1) (.slice (some ⟨w.heap.size,0,none⟩) e.length d) (k.alloc (.cells a T)):=by
 have u:pR β H nx w (gS β nx (some (w.heap.size,d))) ((nx,.row false g e)::H) (nx+1) (k.alloc (.cells a T)) nx (.row false g e):=
  pt m _ rfl _ _ (λb o h=>by rw[heap_alloc,f,an (by have:=aM h;omega)];exact h) (λb c h=>by simp at h;omega)
 have t:=u.keeps (U0:=U0);have q:=u.cn;have C:Below B w (k.alloc (.cells a T)):=n.trans (ix (by rw[f];exact m.bsize) _);refine⟨_,u.mem m C (.inr ⟨w.heap.size,d,a,T,b7 _ _ _,m.bsize,by rw[heap_alloc,f,aq rfl],v,z,p.sz,l,A,p.one,(p.lx t).rep⟩),t,q,?_⟩;refine .ref nx _ 0 _ _ ae rfl (λD r s h=>?_) (λD r s h=>by rw[aP,aq rfl]at h;cases h);rw[aP,aq rfl]at h;simp only[aw,ca.row.injEq]at h;obtain⟨_,rfl,rfl⟩:=h;exact⟨Nat.le_refl _,λ_ _=>.inr ⟨w.heap.size,d,some ⟨w.heap.size,0,none⟩,b7 _ _ _,aB,λ_=>aB⟩⟩
def Gv(m:Mem B w0 U0 β H nx w)(d:Nat)(a:Option Addr):
  Good B w0 U0 H nx β w (.ref nx 0 0 0) ((nx,.row false d [])::H) (nx+1) (.slice a 0 0) w:=by
 have u:pR β H nx w (gS β nx none) ((nx,.row false d [])::H) (nx+1) w nx (.row false d []):=
  pt m _ rfl _ _ (λb o h=>h) (λb c h=>by simp at h)
 refine⟨_,u.mem m (Below.refl _ _) (.inl ⟨rfl,b7 _ _ _⟩),u.keeps,u.cn,?_⟩;refine .ref nx _ 0 _ _ ae rfl (λg e f h=>?_) (λg e f h=>by rw[aP,aq rfl]at h;cases h);rw[aP,aq rfl]at h;simp only[aw,ca.row.injEq]at h;obtain⟨_,rfl,rfl⟩:=h;exact⟨Nat.le_refl _,λ_ _=>.inl ⟨rfl,b7 _ _ _,a,rfl⟩⟩
def uX{a:Array Value}{o k:Nat}{l:List Value}(h:o+l.length<=a.size):
  (cA a o l).getD k undef=if o<=k/\k<o+l.length then l.getD (k-o) undef else a.getD k undef:=by
 rw[dA,fg _ _ _ _ h];split
 .simp
 .simp
def fL{d:Type}(l:List d)(a:Nat)(b:List d)(h:a+b.length<=l.length)(k:Nat):
  (putAt l a b)[k]?=if a<=k/\k<a+b.length then b[k-a]? else l[k]?:=by
 unfold putAt;have e:(l.take a).length=a:=by simp;omega
 by_cases f:k<a
 .rw[an ae,List.append_assoc,List.getElem?_append_left ae,List.getElem?_take,aq f]
 .by_cases c:k<a+b.length
  .rw[aq ⟨ae,c⟩,List.getElem?_append_left (by simp;omega),List.getElem?_append_right ae,e]
  .rw[an ae,List.getElem?_append_right (by simp;omega),List.getElem?_drop];congr 1;simp;omega
def eG{b:Type}(l:List b)(a:Nat)(c:List b)(h:a+c.length<=l.length):(putAt l a c).length=l.length:=by
 simp[putAt];omega
def nh{id a:Nat}{p l:List DV}(m:Mem B w0 U0 β H nx w)(i:ah H id=some (.var false p)){x v:Value}(A:bj w (Own U0 β H) β H nx (.ptr id a) x)
  (K:a+l.length<=p.length)(q:v.cells.size=l.length)(L:∀j y,l[j]?=some y->bj w (Own U0 β H) β H nx y (v.cells.getD j undef)/\(v.cells.getD j undef).oneCell'=true)
  {t:TypeId}(Q:dC P t l.length=true):
  ∃M,(Instr.storeAt t x v).run P w=.ok () M/\Good B w0 U0 H nx β w (.tuple []) (aH H id (.var false (putAt p a l))) nx undef M:=by
 cases A with
 |ptr _ _ _ hid V h=>
  obtain⟨b,c,C,rfl⟩:=h _ _ i;obtain⟨D,N,E,T,F,O,G,R,S,U⟩:=m.h.aY id _ i;rw[C]at F;simp only[aw,bQ]at F;obtain⟨rfl,rfl⟩:=F;have r:v.cells.toList.length=l.length:=by simpa using q
  have s:∀x∈v.cells.toList,x.oneCell'=true:=by
   intro x A;obtain⟨j,f,rfl⟩:=List.mem_iff_getElem.1 A;have:=(L j _ (List.getElem?_eq_getElem (by omega:j<l.length))).2;rw[dA]at this;simpa[ni (by simpa using f:j<v.cells.size)]using this
  have z:=rF (P:=P) (t:=t) G Q q s (off:=a) ae;have I:=aM G;have u:pR β H nx w β (aH H id (.var false (putAt p a l))) nx (cu w b (cA E a v.cells.toList) T (0,0)) id (.var false (putAt p a l)):=by
   refine⟨λk n=>?_,?_,rfl,λk n=>rfl,Nat.le_refl _,hid,.inr ⟨_,i,rfl,rfl⟩,λD o h=>?_,λD N h=>.inr ⟨N,_,h,i⟩⟩
   .rw[bn,an (λe=>n e.symm)]
   .rw[bn,aq rfl,i];rfl
   .by_cases e:b=D
    .subst e;exact .inr ⟨c,_,C,i⟩
    .left;rw[dI,an (λx=>e x.1)];exact h
  have n:=u.keeps (U0:=U0);have J:=u.cn;refine⟨_,z,β,u.mem m (nX O G) ⟨b,c,_,T,C,O,by rw[dI,aq ⟨rfl,I⟩],by rw[bW,eG _ _ _ K,R],?_,?_⟩,n,J,.undef⟩;all_goals
   intro j d f;rw[fL _ _ _ K]at f;rw[uX ae,r];split at f
   .rename_i g;rw[aq g];have:=L _ _ f;rw[dA]at this;rw[List.getD_eq_getElem?_getD,dZ]
    first|exact this.2|exact this.1.cn n J
   .rename_i g;rw[an g]
    first|exact S _ _ f|exact(U _ _ f).cn n J
def lh{id b d f:Nat}{C c:List (List PV)}{r a:Array Value}{T:TypeId}(m:Mem B w0 U0 β H nx w)(n:ah H id=some (.row false f C))(D:β id=some (b,d))
  (E:B<=b)(F:w.heap[b]?=some (.cells r T (0,0)))(s:a.size=d*f)(p:c.length<=d)(t:C.length<=c.length)(z:Nat->Nat->Value)(g:kc w (Own U0 β H) f c z)
  (J:∀i x j y,c[i]?=some x->x[j]?=some y->a[i*f+j]?=some (z i j))(v:DV)(x:Value)
  (K:∀(q:Heap),q=aH H id (.row false f c)->ku β H nx β q nx->dT w (Own U0 β H) (cu w b a T (0,0)) (Own U0 β q)->bj (cu w b a T (0,0)) (Own U0 β q) β q nx v x):
  Good B w0 U0 H nx β w v (aH H id (.row false f c)) nx x (cu w b a T (0,0)):=by
 have A:=aM F;have u:pR β H nx w β (aH H id (.row false f c)) nx (cu w b a T (0,0)) id (.row false f c):=by
  refine⟨λk l=>?_,?_,rfl,λk l=>rfl,Nat.le_refl _,m.h.lt _ _ n,.inr ⟨_,n,rfl,rfl,t,λ_=>rfl⟩,λG o h=>?_,λG L h=>.inr ⟨L,_,h,n⟩⟩
  .rw[bn,an (λe=>l e.symm)]
  .rw[bn,aq rfl,n];rfl
  .by_cases e:b=G
   .subst e;exact .inr ⟨d,_,D,n⟩
   .left;rw[dI,an (λx=>e x.1)];exact h
 have l:=u.keeps (U0:=U0);have I:=u.cn;exact⟨β,u.mem m (nX E F) (.inr ⟨b,d,a,T,D,E,by rw[dI,aq ⟨rfl,A⟩],s,p,g.sz,z,J,g.one,(g.lx l).rep⟩),l,I,K _ rfl I l⟩
def Gr{a:Array Value}{j:Nat}{v:Value}(h:a[j]?=some v):j<a.size:=by
 rcases cK j a.size with b|b
 .exact b
 .simp[tN b]at h
def Jp{id r i a:Nat}{k:Nat}{J:List (List PV)}{y l:List PV}(m:Mem B w0 U0 β H nx w)(K:ah H id=some (.row false k J))(s:r=J.length)(u:J[i]?=some y)
  {x v:Value}(L:bj w (Own U0 β H) β H nx (.du id r i a) x)(A:a+l.length<=y.length)
  (C:v.cells.size=l.length)(M:∀j p,l[j]?=some p->bP w (Own U0 β H) p (v.cells.getD j undef)/\(v.cells.getD j undef).oneCell'=true){t:TypeId}(hs:dC P t l.length=true):
  ∃X,(Instr.storeAt t x v).run P w=.ok () X/\Good B w0 U0 H nx β w (.tuple []) (aH H id (.row false k (J.set i (putAt y a l)))) nx undef X:=by
 have o:=aL u;cases L with
 |du _ _ _ _ _ hid hc h=>
  obtain⟨b,c,N,rfl⟩:=(h _ _ _ K).2 s o;rcases m.h.aY id _ K with⟨x4,D⟩|⟨b',x5,O,T,Q,h2,Y,Z,h5,R,vs,h7,h8,h9⟩
  .rw[N]at D;cases D
  .rw[N]at Q;simp only[aw,bQ]at Q;obtain⟨rfl,rfl⟩:=Q;have hy:y.length=k:=R y (List.mem_of_getElem? u);have E:v.cells.toList.length=l.length:=by simpa using C
   have F:∀x∈v.cells.toList,x.oneCell'=true:=by
    intro x L;obtain⟨j,S,rfl⟩:=List.mem_iff_getElem.1 L;have:=(M j _ (List.getElem?_eq_getElem (by omega:j<l.length))).2;rw[dA]at this;simpa[ni (by simpa using S:j<v.cells.size)]using this
   have G:i*k+a+l.length<=O.size:=by
    rw[Z];have:(i+1)*k<=c*k:=c7 _ ae;rw[dq,gX]at this;omega
   have I:=rF (P:=P) (t:=t) Y hs C F (off:=i*k+a) G;refine⟨_,I,lh m K N h2 Y (by rw[bW,Z]) (by simpa using h5) aB
    (λn j=>if n=i/\a<=j/\j<a+l.length then v.cells.getD (j-a) undef else vs n j) ⟨?_,?_,?_⟩ ?_ _ _ (λ_ _ _ _=>.undef)⟩
   .intro n z j q f g;by_cases e:n=i
    .subst e;rw[List.getElem?_set_self o]at f;cases f;rw[fL _ _ _ A]at g;split at g
     .rename_i d;rw[aq ⟨rfl,d⟩];exact(M _ _ g).2
     .rename_i d;rw[an (λe=>d e.2)];exact h8 _ _ _ _ u g
    .rw[List.getElem?_set_ne (λh=>e h.symm)]at f;rw[an (λh=>e h.1)];exact h8 _ _ _ _ f g
   .intro n z j q f g;by_cases e:n=i
    .subst e;rw[List.getElem?_set_self o]at f;cases f;rw[fL _ _ _ A]at g;split at g
     .rename_i d;rw[aq ⟨rfl,d⟩];exact(M _ _ g).1
     .rename_i d;rw[an (λe=>d e.2)];exact h9 _ _ _ _ u g
    .rw[List.getElem?_set_ne (λh=>e h.symm)]at f;rw[an (λh=>e h.1)];exact h9 _ _ _ _ f g
   .intro z f;rcases List.mem_or_eq_of_mem_set f with f|rfl
    .exact R z f
    .rw[eG _ _ _ A,hy]
   .intro n z j q f g;rw[fg _ _ _ _ ae,E];by_cases e:n=i
    .subst e;rw[List.getElem?_set_self o]at f;cases f;have S:j<k:=by have:=aL g;rw[eG _ _ _ A]at this;omega
     rw[fL _ _ _ A]at g;split at g
     .rename_i d;rw[aq ⟨ae,ae⟩,aq ⟨rfl,d⟩];have U:j-a<v.cells.size:=ae;rw[dZ,show n*k+j-(n*k+a)=j-a from ae,iC U]
     .rename_i d;rw[an ae,an (λe=>d e.2)];exact h7 _ _ _ _ u g
    .rw[List.getElem?_set_ne (λh=>e h.symm)]at f;have S:j<k:=by have:=aL g;rw[R z (List.mem_of_getElem? f)]at this;exact this
     rw[an,an (λh=>e h.1)]
     .exact h7 _ _ _ _ f g
     .rintro⟨ha,xa⟩;rcases Gl e with V|W
      .have:(n+1)*k<=i*k:=c7 _ V;rw[dq,gX]at this;omega
      .have:(i+1)*k<=n*k:=c7 _ W;rw[dq,gX]at this;omega
structure ik(w:World)(U:Nat->Prop)(β:Place)(H:Heap)(nx:Nat)(sz:Nat)(xs:List (List DV))(vs:Nat->Nat->Value):Prop where
 one:∀i x j y,xs[i]?=some x->x[j]?=some y->(vs i j).oneCell'=true
 rep:∀i x j y,xs[i]?=some x->x[j]?=some y->bj w U β H nx y (vs i j)
 sz:∀x∈xs,x.length=sz
def ik.cn{e:World}{U f:Nat->Prop}{c:Place}{g:Heap}{d:Nat}{k:Nat}{l:List (List DV)}{m:Nat->Nat->Value}(h:ik w U β H nx k l m)(n:dT w U e f)(o:ku β H nx c g d):ik e f c g d k l m:=
 ⟨h.one,λi x j y a b=>(h.rep i x j y a b).cn n o,h.sz⟩
def Pe(m:Mem B w0 U0 β H nx w)(d:Nat)(a:Option Addr):Good B w0 U0 H nx β w (.ref nx 0 0 0) ((nx,.bh false d [])::H) (nx+1) (.slice a 0 0) w:=by
 have u:pR β H nx w (gS β nx none) ((nx,.bh false d [])::H) (nx+1) w nx (.bh false d []):=
  pt m _ rfl _ _ (λb o h=>h) (λb c h=>by cases h)
 refine⟨_,u.mem m (Below.refl _ _) (.inl ⟨rfl,b7 _ _ _⟩),u.keeps,u.cn,.ref nx 0 0 0 _ ae rfl (λf e g h=>by rw[aP,aq rfl]at h;cases h) (λf e g h=>?_)⟩;rw[aP,aq rfl]at h;cases h;exact⟨Nat.le_refl _,λ_ _=>.inl ⟨rfl,b7 _ _ _,a,rfl⟩⟩
def PY(m:Mem B w0 U0 β H nx w)(g:Nat)(e:List (List DV))(n:Nat->Nat->Value)(a:Array Value)(d:Nat)(T:TypeId)(k:World)(f:k.heap=w.heap)(p:Below B w k)
  (v:a.size=d*g)(z:e.length<=d)(q:ik w (Own U0 β H) β H nx g e n)(A:∀i x j y,e[i]?=some x->x[j]?=some y->a[i*g+j]?=some (n i j)):
  Good B w0 U0 H nx β w (.ref nx e.length 0 e.length) ((nx,.bh false g e)::H) (nx+1) (.slice (some ⟨w.heap.size,0,none⟩) e.length d) (k.alloc (.cells a T)):=by
 have u:pR β H nx w (gS β nx (some (w.heap.size,d))) ((nx,.bh false g e)::H) (nx+1) (k.alloc (.cells a T)) nx (.bh false g e):=
  pt m _ rfl _ _ (λb o h=>by rw[heap_alloc,f,an (by have:=aM h;omega)];exact h) (λb c h=>by simp at h;omega)
 have t:=u.keeps (U0:=U0);have l:=u.cn;have C:Below B w (k.alloc (.cells a T)):=p.trans (ix (by rw[f];exact m.bsize) _);refine⟨_,u.mem m C (.inr ⟨w.heap.size,d,a,T,b7 _ _ _,m.bsize,by rw[heap_alloc,f,aq rfl],v,z,q.sz,n,A,q.one,(q.cn t l).rep⟩),t,l,?_⟩;refine .ref nx _ 0 _ _ ae rfl (λD r s h=>by rw[aP,aq rfl]at h;cases h) (λD r s h=>?_);rw[aP,aq rfl]at h;simp only[aw,ca.bh.injEq]at h;obtain⟨_,rfl,rfl⟩:=h;exact⟨Nat.le_refl _,λ_ _=>.inr ⟨w.heap.size,d,some ⟨w.heap.size,0,none⟩,b7 _ _ _,aB,λ_=>aB⟩⟩
def qA{id b d f:Nat}{D c:List (List DV)}{r a:Array Value}{T:TypeId}(m:Mem B w0 U0 β H nx w)(n:ah H id=some (.bh false f D))(E:β id=some (b,d))
  (F:B<=b)(G:w.heap[b]?=some (.cells r T (0,0)))(s:a.size=d*f)(p:c.length<=d)(t:D.length<=c.length)(z:Nat->Nat->Value)(g:ik w (Own U0 β H) β H nx f c z)
  (J:∀i x j y,c[i]?=some x->x[j]?=some y->a[i*f+j]?=some (z i j))(v:DV)(x:Value)
  (K:∀(q:Heap),q=aH H id (.bh false f c)->ku β H nx β q nx->dT w (Own U0 β H) (cu w b a T (0,0)) (Own U0 β q)->bj (cu w b a T (0,0)) (Own U0 β q) β q nx v x):
  Good B w0 U0 H nx β w v (aH H id (.bh false f c)) nx x (cu w b a T (0,0)):=by
 have A:=aM G;have u:pR β H nx w β (aH H id (.bh false f c)) nx (cu w b a T (0,0)) id (.bh false f c):=by
  refine⟨λk l=>?_,?_,rfl,λk l=>rfl,Nat.le_refl _,m.h.lt _ _ n,.inr ⟨_,n,rfl,rfl,t,λ_=>rfl⟩,λI o h=>?_,λI L h=>.inr ⟨L,_,h,n⟩⟩
  .rw[bn,an (λe=>l e.symm)]
  .rw[bn,aq rfl,n];rfl
  .by_cases e:b=I
   .subst e;exact .inr ⟨d,_,E,n⟩
   .left;rw[dI,an (λx=>e x.1)];exact h
 have l:=u.keeps (U0:=U0);have C:=u.cn;exact⟨β,u.mem m (nX F G) (.inr ⟨b,d,a,T,E,F,by rw[dI,aq ⟨rfl,A⟩],s,p,g.sz,z,J,g.one,(g.cn l C).rep⟩),l,C,K _ rfl C l⟩
def GN{id r i a:Nat}{k:Nat}{J:List (List DV)}{y l:List DV}(m:Mem B w0 U0 β H nx w)(K:ah H id=some (.bh false k J))(s:r=J.length)(u:J[i]?=some y)
  {x v:Value}(L:bj w (Own U0 β H) β H nx (.du id r i a) x)(A:a+l.length<=y.length)
  (C:v.cells.size=l.length)(M:∀j p,l[j]?=some p->bj w (Own U0 β H) β H nx p (v.cells.getD j undef)/\(v.cells.getD j undef).oneCell'=true){t:TypeId}(hs:dC P t l.length=true):
  ∃X,(Instr.storeAt t x v).run P w=.ok () X/\Good B w0 U0 H nx β w (.tuple []) (aH H id (.bh false k (J.set i (putAt y a l)))) nx undef X:=by
 have o:=aL u;cases L with
 |du _ _ _ _ _ hid hc _ h=>
  obtain⟨b,c,N,rfl⟩:=(h _ _ _ K).2 s o;rcases m.h.aY id _ K with⟨x4,D⟩|⟨b',x5,O,T,Q,h2,Y,Z,h5,R,vs,h7,h8,h9⟩
  .rw[N]at D;cases D
  .rw[N]at Q;simp only[aw,bQ]at Q;obtain⟨rfl,rfl⟩:=Q;have hy:y.length=k:=R y (List.mem_of_getElem? u);have E:v.cells.toList.length=l.length:=by simpa using C
   have F:∀x∈v.cells.toList,x.oneCell'=true:=by
    intro x L;obtain⟨j,S,rfl⟩:=List.mem_iff_getElem.1 L;have:=(M j _ (List.getElem?_eq_getElem (by omega:j<l.length))).2;rw[dA]at this;simpa[ni (by simpa using S:j<v.cells.size)]using this
   have G:i*k+a+l.length<=O.size:=by
    rw[Z];have:(i+1)*k<=c*k:=c7 _ ae;rw[dq,gX]at this;omega
   have I:=rF (P:=P) (t:=t) Y hs C F (off:=i*k+a) G;refine⟨_,I,qA m K N h2 Y (by rw[bW,Z]) (by simpa using h5) aB
    (λn j=>if n=i/\a<=j/\j<a+l.length then v.cells.getD (j-a) undef else vs n j) ⟨?_,?_,?_⟩ ?_ _ _ (λ_ _ _ _=>.undef)⟩
   .intro n z j q f g;by_cases e:n=i
    .subst e;rw[List.getElem?_set_self o]at f;cases f;rw[fL _ _ _ A]at g;split at g
     .rename_i d;rw[aq ⟨rfl,d⟩];exact(M _ _ g).2
     .rename_i d;rw[an (λe=>d e.2)];exact h8 _ _ _ _ u g
    .rw[List.getElem?_set_ne (λh=>e h.symm)]at f;rw[an (λh=>e h.1)];exact h8 _ _ _ _ f g
   .intro n z j q f g;by_cases e:n=i
    .subst e;rw[List.getElem?_set_self o]at f;cases f;rw[fL _ _ _ A]at g;split at g
     .rename_i d;rw[aq ⟨rfl,d⟩];exact(M _ _ g).1
     .rename_i d;rw[an (λe=>d e.2)];exact h9 _ _ _ _ u g
    .rw[List.getElem?_set_ne (λh=>e h.symm)]at f;rw[an (λh=>e h.1)];exact h9 _ _ _ _ f g
   .intro z f;rcases List.mem_or_eq_of_mem_set f with f|rfl
    .exact R z f
    .rw[eG _ _ _ A,hy]
   .intro n z j q f g;rw[fg _ _ _ _ ae,E];by_cases e:n=i
    .subst e;rw[List.getElem?_set_self o]at f;cases f;have S:j<k:=by have:=aL g;rw[eG _ _ _ A]at this;omega
     rw[fL _ _ _ A]at g;split at g
     .rename_i d;rw[aq ⟨ae,ae⟩,aq ⟨rfl,d⟩];have U:j-a<v.cells.size:=ae;rw[dZ,show n*k+j-(n*k+a)=j-a from ae,iC U]
     .rename_i d;rw[an ae,an (λe=>d e.2)];exact h7 _ _ _ _ u g
    .rw[List.getElem?_set_ne (λh=>e h.symm)]at f;have S:j<k:=by have:=aL g;rw[R z (List.mem_of_getElem? f)]at this;exact this
     rw[an,an (λh=>e h.1)]
     .exact h7 _ _ _ _ f g
     .rintro⟨ha,xa⟩;rcases Gl e with V|W
      .have:(n+1)*k<=i*k:=c7 _ V;rw[dq,gX]at this;omega
      .have:(i+1)*k<=n*k:=c7 _ W;rw[dq,gX]at this;omega
end
end
end Go.Dv
