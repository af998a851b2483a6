/- Lemmas for the law of this claim. -/
import Derived.Test.YtcphhjkcgikdgaaGreatDoorP01
import Derived.Laws.World
set_option linter.all false
namespace Go.Dv
def aP{a:Type}(k:Nat)(v:a)(r:List (Nat×a))(i:Nat):ah ((k,v)::r) i=if k=i then some v else ah r i:=by
 by_cases h:k=i<;>simp[ah,h]
def jQ(e:Env)(i:Nat)(d:DV)(k:Nat):ah (fi e i d) k=if i=k then some d else ah e k:=by
 induction e with
 |nil=>simp[fi,aP,ah]
 |cons x r b=>
  obtain⟨j,v⟩:=x;by_cases h:j=i
  .subst h;simp only[fi,beq_self_eq_true,bZ,aP];split<;>rfl
  .have c:(j==i)=false:=by simpa using h
   simp only[fi,c,Bool.false_eq_true,cy];split
   .simp only[aP]
   .simp only[aP,b];by_cases a:j=k
    .subst a;have:¬i=j:=λe=>h e.symm
     simp[this]
    .simp[a]
def DY{c:Type}(e:List (Nat×c))(i k:Nat):ah (oe e i) k=if i=k then none else ah e k:=by
 induction e with
 |nil=>simp[oe,ah]
 |cons x r a=>
  obtain⟨j,v⟩:=x;by_cases h:j=i
  .subst h;simp only[oe,beq_self_eq_true,bZ,a,aP];split<;>rfl
  .have d:(j==i)=false:=by simpa using h
   simp only[oe,d,Bool.false_eq_true,cy,aP,a];by_cases b:j=k
   .subst b;have:¬i=j:=λe=>h e.symm
    simp[this]
   .simp[b]
def gQ{a:Type}(l:List Nat):∀(e:List (Nat×a)) (k:Nat) (v:a),ah (cT e l) k=some v->ah e k=some v:=by
 induction l with
 |nil=>intro e k v h;exact h
 |cons i r b=>
  intro e k v h;have:=b _ _ _ h;rw[DY]at this;split at this
  .cases this
  .exact this
def bn(e:Heap)(i:Nat)(d:ca)(k:Nat):ah (aH e i d) k=if i=k then(ah e k).map (λ_=>d)else ah e k:=by
 induction e with
 |nil=>simp[aH,ah]
 |cons x r b=>
  obtain⟨j,v⟩:=x;by_cases h:j=i
  .subst h;simp only[aH,beq_self_eq_true,bZ,aP];split<;>simp
  .have c:(j==i)=false:=by simpa using h
   simp only[aH,c,Bool.false_eq_true,cy,aP,b];by_cases a:j=k
   .subst a;have:¬i=j:=λe=>h e.symm
    simp[this]
   .simp[a]
def mC(c:Nat)(h:Heap)(k:Nat)(b:ca)(a:ah (az c h) k=some b):k<c/\∃g,ah h k=some g:=by
 induction h with
 |nil=>simp[az,ah]at a
 |cons x r f=>
  obtain⟨j,v⟩:=x;simp only[az]at a;rw[aP];split at a
  .rw[aP]at a;split at a
   .rename_i e d;subst d;exact⟨e,v,aB⟩
   .rename_i e d;rw[an d];exact f a
  .have:=f a;split
   .rename_i e d;subst d;exact absurd this.1 e
   .exact this
def cP(c:Nat)(h:Heap)(k:Nat)(b:k<c):ah (az c h) k=ah h k:=by
 induction h with
 |nil=>rfl
 |cons x r a=>
  obtain⟨j,v⟩:=x;simp only[az,aP];split
  .rw[aP,a]
  .rename_i d;have:¬j=k:=ae;rw[an this,a]
def eS{d j:Type}{f:d->Option j}:∀{l:List d} {r:List j},cl f l=some r->r.length=l.length/\∀(i:Nat) (a:d),l[i]?=some a->∃b,r[i]?=some b/\f a=some b
 |[],r,h=>by simp[cl]at h;subst h;exact⟨rfl,aB⟩
 |a::l,r,h=>by
  simp only[cl]at h;cases e:f a with
  |none=>simp[e]at h
  |some b=>
   simp only[e]at h;cases g:cl f l with
   |none=>simp[g]at h
   |some n=>
    simp only[g,aw]at h;subst h;obtain⟨k,m⟩:=eS g;refine⟨by simp[k],λi x c=>?_⟩;cases i with
    |zero=>simp only[List.getElem?_cons_zero,aw]at c;subst c;exact⟨b,aB,e⟩
    |succ i=>simp only[List.getElem?_cons_succ]at c⊢;exact m i x c
structure ly(es:Array MapEntry)(clock n:Nat)(f:SM):Prop where
 size:es.size=n
 By:∀e∈es.toList,e.born<clock
 born:es.toList.Pairwise λx y=>x.born≠y.born
 keys:es.toList.Pairwise λx y=>x.key≠y.key
 to:∀e∈es.toList,∃k y,e.key=.string k/\f k=some y/\e.val=y.v
 from_:∀k y,f k=some y->∃e∈es.toList,e.key=.string k
inductive bP(w:World)(U:Nat->Prop):PV->Value->Prop
 |int (k:IntKind) (n:Int):bP w U (.int k n) (.int k n)
 |bool (b:Bool):bP w U (.bool b) (.bool b)
 |str (s:ByteArray):bP w U (.str s) (.string s)
 |none (full:Bool) (a:Option Addr) (c:Nat) (h:full=true->c=0):bP w U (.slice full []) (.slice a 0 c)
 |slice (full:Bool) (xs:List (List PV)) (b off c sz:Nat) (arr:Array Value) (T:TypeId) (fz:Nat×Nat) (vs:Nat->Nat->Value)
  (hne:0<xs.length) (hc:xs.length<=c) (hf:full=true->c=xs.length) (hb:w.heap[b]?=some (.cells arr T fz)) (hu:¬U b)
  (hsz:∀x∈xs,x.length=sz)
  (hv:∀i x j y,xs[i]?=some x->x[j]?=some y->arr[off+i*sz+j]?=some (vs i j))
  (h1:∀i x j y,xs[i]?=some x->x[j]?=some y->(vs i j).oneCell'=true)
  (hr:∀i x j y,xs[i]?=some x->x[j]?=some y->bP w U y (vs i j)):
  bP w U (.slice full xs) (.slice (some ⟨b,off,.none⟩) xs.length c)
 |eN (cs:List PV) (b off:Nat) (arr:Array Value) (T:TypeId) (fz:Nat×Nat) (vs:Nat->Value)
  (hb:w.heap[b]?=some (.cells arr T fz)) (hu:¬U b)
  (hv:∀j y,cs[j]?=some y->arr[off+j]?=some (vs j))
  (h1:∀j y,cs[j]?=some y->(vs j).oneCell'=true)
  (hr:∀j y,cs[j]?=some y->bP w U y (vs j)):
  bP w U (.eN cs) (.pointer (some ⟨b,off,.none⟩))
 |func (f:FuncId) (caps:List PV) (vs:Array Value) (hl:vs.size=caps.length)
  (hr:∀j y,caps[j]?=some y->bP w U y (vs.getD j undef)):bP w U (.func f caps) (.func (.func f) #[] vs)
 |agg (cs:List PV) (vs:Array Value) (hl:vs.size=cs.length) (h1:∀j y,cs[j]?=some y->(vs.getD j undef).oneCell'=true)
  (hr:∀j y,cs[j]?=some y->bP w U y (vs.getD j undef)):bP w U (.agg cs) (.agg vs)
 |tuple (cs:List PV) (vs:Array Value) (hl:vs.size=cs.length)
  (hr:∀j y,cs[j]?=some y->bP w U y (vs.getD j undef)):bP w U (.tuple cs) (.tuple vs)
 |undef (v:Value):bP w U .undef v
 |map (n:Nat) (f:SM) (b:Nat) (es:Array MapEntry) (clock:Nat) (hb:w.heap[b]?=some (.map es clock)) (hu:¬U b) (hm:ly es clock n f):bP w U (.map n f) (.map (some b))
 |iface (t:Nat) (p:PV) (v:Value) (h:bP w U p v):bP w U (.iface t p) (.iface t v)
 |z (a:Option Addr) (c:Nat):bP w U (.z a.isNone) (.slice a 0 c)
def LQ(o:Obj):Prop:=(∃a T b,o=.cells a T b)\/∃d c,o=.map d c
def LQ.mk{a:Array Value}{T:TypeId}{b:Nat×Nat}:LQ (.cells a T b):=.inl ⟨_,_,_,rfl⟩
def LQ.map{a:Array MapEntry}{c:Nat}:LQ (.map a c):=.inr ⟨_,_,rfl⟩
structure dT(w:World)(U:Nat->Prop)(w':World)(U':Nat->Prop):Prop where
 block:∀b o,LQ o->¬U b->w.heap[b]?=some o->w'.heap[b]?=some o
 out:∀b o,LQ o->¬U b->w.heap[b]?=some o->¬U' b
def bP.lx{w E:World}{U F:Nat->Prop}(h:dT w U E F){p:PV}{v:Value}(G:bP w U p v):bP E F p v:=by
 induction G with
 |int k n=>exact .int k n
 |bool b=>exact .bool b
 |str s=>exact .str s
 |none d a c h=>exact .none d a c h
 |slice d H b l c I m T A g B J K i j C D q y e=>
  exact .slice d H b l c I m T A g B J K (h.block _ _ .mk j i) (h.out _ _ .mk j i) C D q e
 |eN r b l m T A g i j D q y e=>exact .eN r b l m T A g (h.block _ _ .mk j i) (h.out _ _ .mk j i) D q e
 |func f u g x y e=>exact .func f u g x e
 |agg r g x q y e=>exact .agg r g x q e
 |tuple r g x y e=>exact .tuple r g x e
 |undef v=>exact .undef v
 |map n f b L o i j M=>exact .map n f b L o (h.block _ _ .map j i) (h.out _ _ .map j i) M
 |iface t p v G e=>exact .iface t p v e
 |z a c=>exact .z a c
def bP.xV{w:World}{U:Nat->Prop}{p:PV}{v:Value}(a:bP w U p v)(h:p.iz=true):v.oneCell'=true:=by
 cases a<;>first|rfl|simp[PV.iz]at h
abbrev Place:=Nat->Option (Nat×Nat)
def zW{f:Type}(e:Place)(id c n g:Nat)(h:List f)(v:Value):Prop:=
 (h=[]/\e id=none/\∃a,v=.slice a 0 0)\/
 ∃b d a,e id=some (b,d)/\v=.slice a n (d-c)/\(0<n\/c=0->a=some ⟨b,c*g,none⟩)
inductive bj(w:World)(U:Nat->Prop)(β:Place)(H:Heap)(nx:Nat):DV->Value->Prop
 |p (v:PV) (x:Value) (h:bP w U v x):bj w U β H nx (.p v) x
 |agg (cs:List DV) (vs:Array Value) (hl:vs.size=cs.length) (h1:∀j y,cs[j]?=some y->(vs.getD j undef).oneCell'=true)
  (hr:∀j y,cs[j]?=some y->bj w U β H nx y (vs.getD j undef)):bj w U β H nx (.agg cs) (.agg vs)
 |tuple (cs:List DV) (vs:Array Value) (hl:vs.size=cs.length)
  (hr:∀j y,cs[j]?=some y->bj w U β H nx y (vs.getD j undef)):bj w U β H nx (.tuple cs) (.tuple vs)
 |ref (id rD off n:Nat) (v:Value) (hid:id<nx) (hc:v.oneCell'=true)
  (h:∀fz sz xs,ah H id=some (.row fz sz xs)->rD<=xs.length/\(rD=xs.length->off+n<=xs.length->zW β id off n sz xs v))
  (hd:∀fz sz xs,ah H id=some (.bh fz sz xs)->rD<=xs.length/\(rD=xs.length->off+n<=xs.length->zW β id off n sz xs v)):bj w U β H nx (.ref id rD off n) v
 |ptr (id off:Nat) (v:Value) (hid:id<nx) (hc:v.oneCell'=true)
  (h:∀fz cs,ah H id=some (.var fz cs)->∃b c,β id=some (b,c)/\v=.pointer (some ⟨b,off,none⟩))
  (hm:∀fz kv,ah H id=some (.map fz kv)->∃b c,β id=some (b,c)/\v=.map (some b)):bj w U β H nx (.ptr id off) v
 |du (id rD i off:Nat) (v:Value) (hid:id<nx) (hc:v.oneCell'=true)
  (h:∀fz sz xs,ah H id=some (.row fz sz xs)->rD<=xs.length/\(rD=xs.length->i<xs.length->∃b c,β id=some (b,c)/\v=.pointer (some ⟨b,i*sz+off,none⟩)))
  (hd:∀fz sz xs,ah H id=some (.bh fz sz xs)->rD<=xs.length/\(rD=xs.length->i<xs.length->∃b c,β id=some (b,c)/\v=.pointer (some ⟨b,i*sz+off,none⟩))):bj w U β H nx (.du id rD i off) v
 |func (f:FuncId) (caps:List DV) (vs:Array Value) (hl:vs.size=caps.length)
  (hr:∀j y,caps[j]?=some y->bj w U β H nx y (vs.getD j undef)):bj w U β H nx (.func f caps) (.func (.func f) #[] vs)
 |kh (f:FuncId) (first:List DV) (vs:Array Value) (hl:vs.size=first.length)
  (hr:∀j y,first[j]?=some y->bj w U β H nx y (vs.getD j undef)):bj w U β H nx (.kh f first) (.func (.func f) vs #[])
structure ku(β:Place)(H:Heap)(nx:Nat)(Ed:Place)(H':Heap)(nx':Nat):Prop where
 next:nx<=nx'
 row:∀id,id<nx->∀fz sz xs,ah H' id=some (.row fz sz xs)->∃fz0 xs0,ah H id=some (.row fz0 sz xs0)/\xs0.length<=xs.length/\(xs0.length=xs.length->Ed id=β id)
 var:∀id,id<nx->∀fz cs,ah H' id=some (.var fz cs)->∃fz0 cs0,ah H id=some (.var fz0 cs0)/\Ed id=β id
 map:∀id,id<nx->∀fz kv,ah H' id=some (.map fz kv)->∃fz0 kv0,ah H id=some (.map fz0 kv0)/\Ed id=β id
 bh:∀id,id<nx->∀fz sz xs,ah H' id=some (.bh fz sz xs)->∃fz0 xs0,ah H id=some (.bh fz0 sz xs0)/\xs0.length<=xs.length/\(xs0.length=xs.length->Ed id=β id)
def ku.refl(d:Place)(H:Heap)(e:Nat):ku d H e d H e:=
 ⟨Nat.le_refl _,λ_ _ a _ b h=>⟨a,b,h,Nat.le_refl _,λ_=>rfl⟩,λ_ _ a c h=>⟨a,c,h,rfl⟩,λ_ _ a c h=>⟨a,c,h,rfl⟩,λ_ _ a _ b h=>⟨a,b,h,Nat.le_refl _,λ_=>rfl⟩⟩
def zW.congr{i:Type}{d a:Place}{id b n e:Nat}{f c:List i}{v:Value}(j:f.length=c.length)(g:a id=d id)(h:zW d id b n e f v):zW a id b n e c v:=by
 rcases h with⟨rfl,k,l⟩|h
 .left;exact⟨by simpa using j.symm,by rw[g,k],l⟩
 .right;rw[g];exact h
def bj.cn{w J:World}{U K:Nat->Prop}{β B:Place}{H L:Heap}{M C:Nat}(N:dT w U J K)(o:ku β H M B L C)
  {d:DV}{v:Value}(h:bj w U β H M d v):bj J K B L C d v:=by
 induction h with
 |p v x h=>exact .p v x (h.lx N)
 |agg q r s D F t=>exact .agg q r s D t
 |tuple q r s F t=>exact .tuple q r s t
 |func f q r s F t=>exact .func f q r s t
 |kh f q r s F t=>exact .kh f q r s t
 |ref id u b n v hid E h G=>
  refine .ref id u b n v (pb hid o.next) E (λc y g j=>?_) (λc y g j=>?_)
  .obtain⟨k,a,l,z,m⟩:=o.row id hid c y g j;obtain⟨D,A⟩:=h _ _ _ l;refine⟨ae,λI O=>?_⟩;have e:a.length=g.length:=ae;exact(A ae ae).congr e (m e)
  .obtain⟨k,a,l,z,m⟩:=o.bh id hid c y g j;obtain⟨D,A⟩:=G _ _ _ l;refine⟨ae,λI O=>?_⟩;have e:a.length=g.length:=ae;exact(A ae ae).congr e (m e)
 |ptr id b v hid E h P=>
  refine .ptr id b v (pb hid o.next) E (λc q j=>?_) (λc Q j=>?_)
  .obtain⟨k,R,l,m⟩:=o.var id hid c q j;rw[m];exact h _ _ l
  .obtain⟨k,S,l,m⟩:=o.map id hid c Q j;rw[m];exact P _ _ l
 |du id u i b v hid E h G=>
  refine .du id u i b v (pb hid o.next) E (λc y g j=>?_) (λc y g j=>?_)
  .obtain⟨k,a,l,z,m⟩:=o.row id hid c y g j;obtain⟨D,A⟩:=h _ _ _ l;refine⟨ae,λI T=>?_⟩;have e:a.length=g.length:=ae;rw[m e];exact A ae ae
  .obtain⟨k,a,l,z,m⟩:=o.bh id hid c y g j;obtain⟨D,A⟩:=G _ _ _ l;refine⟨ae,λI T=>?_⟩;have e:a.length=g.length:=ae;rw[m e];exact A ae ae
def bj.xV{w:World}{U:Nat->Prop}{c:Place}{H:Heap}{e:Nat}{d:DV}{v:Value}(a:bj w U c H e d v)(h:d.iz=true):v.oneCell'=true:=by
 cases a with
 |p v x a=>exact a.xV h
 |ref _ _ _ _ _ _ b _ _|ptr _ _ _ _ b _ _|du _ _ _ _ _ _ b _ _=>exact b
 |func|kh=>rfl
 |agg|tuple=>simp[DV.iz]at h
def km(w:World)(U:Nat->Prop)(m:Place)(H:Heap)(r:Nat)(B:Nat)(id:Nat):ca->Prop
 | .var _ s=>∃b c a T,m id=some (b,c)/\B<=b/\w.heap[b]?=some (.cells a T (0,0))/\a.size=s.length/\
  (∀j d,s[j]?=some d->(a.getD j undef).oneCell'=true)/\∀j d,s[j]?=some d->bj w U m H r d (a.getD j undef)
 | .row _ p l=>(l=[]/\m id=none)\/∃b h a T,m id=some (b,h)/\B<=b/\w.heap[b]?=some (.cells a T (0,0))/\a.size=h*p/\l.length<=h/\
  (∀x∈l,x.length=p)/\∃q:Nat->Nat->Value,(∀i x j y,l[i]?=some x->x[j]?=some y->a[i*p+j]?=some (q i j))/\
  (∀i x j y,l[i]?=some x->x[j]?=some y->(q i j).oneCell'=true)/\∀i x j y,l[i]?=some x->x[j]?=some y->bP w U y (q i j)
 | .map _ (.strs n f)=>∃b c o g,m id=some (b,c)/\B<=b/\w.heap[b]?=some (.map o g)/\ly o g n f
 | .map _ (.ints t)=>∃b c o g,m id=some (b,c)/\B<=b/\w.heap[b]?=some (.map o g)/\o.size=t.length/\((∀e∈o.toList,e.born<g)/\o.toList.Pairwise λx y=>x.born≠y.born)/\
  ∀(j:Nat) (k:Int) (d:DV),t[j]?=some (k,d)->∃e,o[j]?=some e/\e.key=.int .i64 k/\e.val.oneCell'=true/\bj w U m H r d e.val
 | .bh _ p l=>(l=[]/\m id=none)\/∃b h a T,m id=some (b,h)/\B<=b/\w.heap[b]?=some (.cells a T (0,0))/\a.size=h*p/\l.length<=h/\
  (∀x∈l,x.length=p)/\∃q:Nat->Nat->Value,(∀i x j y,l[i]?=some x->x[j]?=some y->a[i*p+j]?=some (q i j))/\
  (∀i x j y,l[i]?=some x->x[j]?=some y->(q i j).oneCell'=true)/\∀i x j y,l[i]?=some x->x[j]?=some y->bj w U m H r y (q i j)
def ca.fz:ca->Bool
 | .bh f _ _=>f
 | .var f _=>f
 | .row f _ _=>f
 | .map f _=>f
def Own(a:Nat->Prop)(d:Place)(H:Heap):Nat->Prop:=λb=>a b\/∃id aY c,ah H id=some aY/\aY.fz=false/\d id=some (b,c)
structure Z1(w:World)(U0:Nat->Prop)(β:Place)(H:Heap)(nx:Nat)(B:Nat):Prop where
 lt:∀id aY,ah H id=some aY->id<nx
 aY:∀id aY,ah H id=some aY->km w (Own U0 β H) β H nx B id aY
 inj:∀id aY id' blk' b c c',ah H id=some aY->ah H id'=some blk'->β id=some (b,c)->β id'=some (b,c')->id=id'
section
open Go.RowKit
def aM{w:World}{b:Nat}{o:Obj}(h:w.heap[b]?=some o):b<w.heap.size:=by
 rcases cK b w.heap.size with a|a
 .exact a
 .simp[tN a]at h
structure Mem(B:Nat)(w0:World)(U0:Nat->Prop)(β:Place)(H:Heap)(nx:Nat)(w:World):Prop where
 below:Below B w0 w
 bsize:B<=w.heap.size
 u0:∀b,U0 b->b<B
 h:Z1 w U0 β H nx B
 tab:lK B w
def km.carry{w L:World}{U R:Nat->Prop}{J v:Place}{H S:Heap}{V D B id:Nat}{aY:ca}
  (K:dT w U L R)(M:ku J H V v S D)(m:v id=J id)
  (E:∀b c o,J id=some (b,c)->w.heap[b]?=some o->L.heap[b]?=some o)
  (h:km w U J H V B id aY):km L R v S D B id aY:=by
 cases aY with
 |var f Z=>
  obtain⟨b,c,s,T,l,r,t,u,z,A⟩:=h;exact⟨b,c,s,T,by rw[m,l],r,E _ _ _ l t,u,z,λj d N=>(A j d N).cn K M⟩
 |row f X Y=>
  rcases h with⟨l,r⟩|⟨b,C,s,T,l,r,t,u,z,A,O,F,G,I⟩
  .exact .inl ⟨l,by rw[m,r]⟩
  .exact .inr ⟨b,C,s,T,by rw[m,l],r,E _ _ _ l t,u,z,A,O,F,G,λi x j y a b=>(I i x j y a b).lx K⟩
 |map f W=>
  cases W with
  |strs n g=>
   obtain⟨b,c,P,q,l,r,t,u⟩:=h;exact⟨b,c,P,q,by rw[m,l],r,E _ _ _ l t,u⟩
  |ints W=>
  obtain⟨b,c,P,q,l,r,t,u,Q,z⟩:=h;refine⟨b,c,P,q,by rw[m,l],r,E _ _ _ l t,u,Q,λj k p N=>?_⟩;obtain⟨e,A,F,G,I⟩:=z j k p N;exact⟨e,A,F,G,I.cn K M⟩
 |bh f X Y=>
  rcases h with⟨l,r⟩|⟨b,C,s,T,l,r,t,u,z,A,O,F,G,I⟩
  .exact .inl ⟨l,by rw[m,r]⟩
  .exact .inr ⟨b,C,s,T,by rw[m,l],r,E _ _ _ l t,u,z,A,O,F,G,λi x j y a b=>(I i x j y a b).cn K M⟩
def km.there{w:World}{U:Nat->Prop}{k:Place}{H:Heap}{m B id:Nat}{aY:ca}(h:km w U k H m B id aY){b c:Nat}(g:k id=some (b,c)):
  B<=b/\∃o,w.heap[b]?=some o:=by
 cases aY with
 |var f t=>
  obtain⟨l,n,i,T,a,d,e,_⟩:=h;rw[g]at a;simp at a;obtain⟨rfl,rfl⟩:=a;exact⟨d,_,e⟩
 |row f p q|bh f p q=>
  rcases h with⟨_,d⟩|⟨l,r,i,T,a,d,e,_⟩
  .rw[g]at d;cases d
  .rw[g]at a;simp at a;obtain⟨rfl,rfl⟩:=a;exact⟨d,_,e⟩
 |map f s=>
  cases s<;>
  .obtain⟨l,n,u,j,a,d,e,_⟩:=h;rw[g]at a;simp at a;obtain⟨rfl,rfl⟩:=a;exact⟨d,_,e⟩
structure pR(β:Place)(H:Heap)(nx:Nat)(w:World)(Ed:Place)(H':Heap)(nx':Nat)(w':World)(id:Nat)(blk':ca):Prop where
 heap:∀k,k≠id->ah H' k=ah H k
 at_:ah H' id=some blk'
 fz:blk'.fz=false
 place:∀k,k≠id->Ed k=β k
 next:nx<=nx'
 lt:id<nx'
 By:(ah H id=none/\nx<=id)\/∃aY,ah H id=some aY/\aY.fz=false/\
  match aY,blk' with
  | .var _ _,.var _ _=>Ed id=β id
  | .row _ sz xs,.row _ sz' xs'=>sz=sz'/\xs.length<=xs'.length/\(xs.length=xs'.length->Ed id=β id)
  | .map _ _,.map _ _=>Ed id=β id
  | .bh _ sz xs,.bh _ sz' xs'=>sz=sz'/\xs.length<=xs'.length/\(xs.length=xs'.length->Ed id=β id)
  |_,_=>False
 world:∀b o,w.heap[b]?=some o->w'.heap[b]?=some o\/∃c aY,β id=some (b,c)/\ah H id=some aY
 new:∀b c,Ed id=some (b,c)->w.heap.size<=b\/∃c' aY,β id=some (b,c')/\ah H id=some aY
def pR.keeps{U0:Nat->Prop}{β g:Place}{H r:Heap}{t l id:Nat}{w s:World}{i:ca}(u:pR β H t w g r l s id i):
  dT w (Own U0 β H) s (Own U0 g r):=by
 have a:∀b c aY,β id=some (b,c)->ah H id=some aY->Own U0 β H b:=by
  intro b c aY e f;rcases u.By with⟨h,_⟩|⟨d,h,v,_⟩
  .rw[h]at f;cases f
  .exact .inr ⟨id,d,c,h,v,e⟩
 constructor
 .intro b o _ j m;rcases u.world b o m with h|⟨c,aY,e,f⟩
  .exact h
  .exact absurd (a _ _ _ e f) j
 .intro b o _ j m n;rcases n with n|⟨k,aY,c,e,f,p⟩
  .exact j (.inl n)
  .by_cases q:k=id
   .subst q;rcases u.new b c p with h|⟨z,d,x,y⟩
    .have:=aM m;omega
    .exact j (a _ _ _ x y)
   .rw[u.heap k q]at e;rw[u.place k q]at p;exact j (.inr ⟨k,aY,c,e,f,p⟩)
def pR.cn{β i:Place}{H t:Heap}{v j id:Nat}{w x:World}{l:ca}(u:pR β H v w i t j x id l):ku β H v i t j:=by
 refine⟨u.next,λk n e y o h=>?_,λk n e m h=>?_,λk n e z h=>?_,λk n e y o h=>?_⟩
 .by_cases b:k=id
  .subst b;rw[u.at_]at h;cases h;rcases u.By with⟨_,h⟩|⟨aY,h,p,d⟩
   .omega
   .cases aY with
    |var f m|map f m|bh f c a=>exact d.elim
    |row f c a=>obtain⟨rfl,q,r⟩:=d;exact⟨f,a,h,q,r⟩
  .rw[u.heap k b]at h;exact⟨e,o,h,Nat.le_refl _,λ_=>u.place k b⟩
 .by_cases b:k=id
  .subst b;rw[u.at_]at h;cases h;rcases u.By with⟨_,h⟩|⟨aY,h,p,d⟩
   .omega
   .cases aY with
    |var f g=>exact⟨f,g,h,d⟩
    |row f c a|map f g|bh f c a=>exact d.elim
  .rw[u.heap k b]at h;exact⟨e,m,h,u.place k b⟩
 .by_cases b:k=id
  .subst b;rw[u.at_]at h;cases h;rcases u.By with⟨_,h⟩|⟨aY,h,p,d⟩
   .omega
   .cases aY with
    |var f g|row f c a|bh f c a=>exact d.elim
    |map f s=>exact⟨f,s,h,d⟩
  .rw[u.heap k b]at h;exact⟨e,z,h,u.place k b⟩
 .by_cases b:k=id
  .subst b;rw[u.at_]at h;cases h;rcases u.By with⟨_,h⟩|⟨aY,h,p,d⟩
   .omega
   .cases aY with
    |var f m|map f m|row f c a=>exact d.elim
    |bh f c a=>obtain⟨rfl,q,r⟩:=d;exact⟨f,a,h,q,r⟩
  .rw[u.heap k b]at h;exact⟨e,o,h,Nat.le_refl _,λ_=>u.place k b⟩
def pR.mem{B:Nat}{I:World}{v:Nat->Prop}{D a:Place}{H x:Heap}{J l id:Nat}{w y:World}{g:ca}(u:pR D H J w a x l y id g)
  (m:Mem B I v D H J w)(i:Below B w y)(r:km y (Own v a x) a x l B id g):Mem B I v a x l y:=by
 have z:=u.keeps (U0:=v);have K:=u.cn;refine⟨m.below.trans i,dL m.bsize i.size,m.u0,⟨λk aY h=>?_,λk aY h=>?_,λk aY n L b c p h A i d=>?_⟩,m.tab.below (Nat.le_refl _) i.toBelow⟩
 .by_cases z:k=id
  .rw[z];exact u.lt
  .rw[u.heap k z]at h;exact pb (m.h.lt _ _ h) u.next
 .by_cases f:k=id
  .subst f;rw[u.at_]at h;cases h;exact r
  .rw[u.heap k f]at h;refine(m.h.aY k aY h).carry z K (u.place k f) λb c o C E=>?_
   rcases u.world b o E with q|⟨p,s,q,F⟩
   .exact q
   .exact absurd (m.h.inj _ _ _ _ _ _ _ h F C q) f
 .have t:∀(k:Nat) (aY:ca) (b c p:Nat),k≠id->ah H k=some aY->D k=some (b,c)->a id=some (b,p)->False:=by
   intro k aY b c p G h C E;rcases u.new b p E with q|⟨M,s,q,F⟩
   .obtain⟨_,o,N⟩:=(m.h.aY k aY h).there C;have:=aM N;omega
   .exact G (m.h.inj _ _ _ _ _ _ _ h F C q)
  by_cases e:k=id
  .by_cases j:n=id
   .rw[e,j]
   .rw[u.heap n j]at A;rw[u.place n j]at d;subst e;exact(t n L b p c j A d i).elim
  .rw[u.heap k e]at h;rw[u.place k e]at i;by_cases j:n=id
   .subst j;exact(t k aY b c p e h i d).elim
   .rw[u.heap n j]at A;rw[u.place n j]at d;exact m.h.inj _ _ _ _ _ _ _ h A i d
def Mem.call{B:Nat}{g:World}{a:Nat->Prop}{d:Place}{H:Heap}{i:Nat}{w f:World}(m:Mem B g a d H i w)(e:Below w.heap.size w f):
  Mem B g a d H i f/\dT w (Own a d H) f (Own a d H):=by
 have j:dT w (Own a d H) f (Own a d H):=⟨λb o _ _ h=>by rw[e.block b (aM h)];exact h,λb o _ k _=>k⟩;refine⟨⟨m.below.trans (e.mono m.bsize),dL m.bsize e.size,m.u0,⟨m.h.lt,λid aY h=>?_,m.h.inj⟩,m.tab.below m.bsize e.toBelow⟩,j⟩;exact(m.h.aY id aY h).carry j (ku.refl _ _ _) rfl λb c o _ h=>by rw[e.block b (aM h)];exact h
structure gT(H H':Heap):Prop where
 sub:∀id blk',ah H' id=some blk'->∃aY,ah H id=some aY/\(blk'=aY\/blk'=aY.freeze)
def gT.own{e:Nat->Prop}{f:Place}{H g:Heap}(l:gT H g){b:Nat}(h:Own e f g b):Own e f H b:=by
 rcases h with h|⟨id,a,c,j,i,k⟩
 .exact .inl h
 .obtain⟨aY,m,d|d⟩:=l.sub id a j
  .subst d;exact .inr ⟨id,_,c,m,i,k⟩
  .subst d;cases aY<;>simp[ca.freeze,ca.fz]at i
def gT.keeps{U0:Nat->Prop}{β:Place}{H a:Heap}(l:gT H a)(w:World):dT w (Own U0 β H) w (Own U0 β a):=
 ⟨λ_ _ _ _ h=>h,λ_ _ _ b _ c=>b (l.own c)⟩
def gT.cn{β:Place}{H g:Heap}(l:gT H g){i d:Nat}(j:i<=d):ku β H i β g d:=by
 refine⟨j,λid _ c k e h=>?_,λid _ c f h=>?_,λid _ c f h=>?_,λid _ c k e h=>?_⟩
 .obtain⟨aY,b,a|a⟩:=l.sub _ _ h
  .subst a;exact⟨c,e,b,Nat.le_refl _,λ_=>rfl⟩
  .cases aY<;>simp[ca.freeze]at a
   obtain⟨_,rfl,rfl⟩:=a;exact⟨_,_,b,Nat.le_refl _,λ_=>rfl⟩
 .obtain⟨aY,b,a|a⟩:=l.sub _ _ h
  .subst a;exact⟨c,f,b,rfl⟩
  .cases aY<;>simp[ca.freeze]at a
   obtain⟨_,rfl⟩:=a;exact⟨_,_,b,rfl⟩
 .obtain⟨aY,b,a|a⟩:=l.sub _ _ h
  .subst a;exact⟨c,f,b,rfl⟩
  .cases aY<;>simp[ca.freeze]at a
   obtain⟨_,rfl⟩:=a;exact⟨_,_,b,rfl⟩
 .obtain⟨aY,b,a|a⟩:=l.sub _ _ h
  .subst a;exact⟨c,e,b,Nat.le_refl _,λ_=>rfl⟩
  .cases aY<;>simp[ca.freeze]at a
   obtain⟨_,rfl,rfl⟩:=a;exact⟨_,_,b,Nat.le_refl _,λ_=>rfl⟩
def km.freeze{w:World}{U:Nat->Prop}{a:Place}{H:Heap}{b B id:Nat}{aY:ca}(h:km w U a H b B id aY):km w U a H b B id aY.freeze:=by
 cases aY with
 |map f c=>cases c<;>exact h
 |_=>exact h
def Mem.less{B:Nat}{k:World}{e:Nat->Prop}{f:Place}{H n:Heap}{g:Nat}{w:World}(m:Mem B k e f H g w)(l:gT H n):
  Mem B k e f n g w:=by
 refine⟨m.below,m.bsize,m.u0,⟨λid aY h=>?_,λid aY h=>?_,λid aY p o b c s h q r i=>?_⟩,m.tab⟩
 .obtain⟨j,d,_⟩:=l.sub _ _ h;exact m.h.lt _ _ d
 .obtain⟨j,d,a⟩:=l.sub _ _ h;have:=(m.h.aY id j d).carry (l.keeps (U0:=e) w) (l.cn (β:=f) (Nat.le_refl g)) rfl (λ_ _ _ _ h=>h);rcases a with a|a
  .subst a;exact this
  .subst a;exact this.freeze
 .obtain⟨j,d,_⟩:=l.sub _ _ h;obtain⟨t,a,_⟩:=l.sub _ _ q;exact m.h.inj _ _ _ _ _ _ _ d a r i
def gT.refl(H:Heap):gT H H:=⟨λid aY h=>⟨aY,h,.inl rfl⟩⟩
def ca.D1(b:ca):b.freeze.freeze=b.freeze:=by cases b<;>rfl
def gT.trans{H d c:Heap}(a:gT H d)(b:gT d c):gT H c:=by
 refine⟨λid aY h=>?_⟩;obtain⟨k,f,g⟩:=b.sub _ _ h;obtain⟨e,i,j⟩:=a.sub _ _ f;refine⟨e,i,?_⟩;rcases g with rfl|rfl<;>rcases j with rfl|rfl
 .exact .inl rfl
 .exact .inr rfl
 .exact .inr rfl
 .exact .inr e.D1
def rM(H:Heap)(i k:Nat):ah (ml H i) k=if i=k then(ah H k).map ca.freeze else ah H k:=by
 induction H with
 |nil=>simp[ml,ah]
 |cons x r b=>
  obtain⟨j,v⟩:=x;by_cases h:j=i
  .subst h;simp only[ml,beq_self_eq_true,bZ,aP];split<;>simp
  .have c:(j==i)=false:=by simpa using h
   simp only[ml,c,Bool.false_eq_true,cy,aP,b];by_cases a:j=k
   .subst a;have:¬i=j:=λe=>h e.symm
    simp[this]
   .simp[a]
def lr(c:List Nat):∀H:Heap,gT H (cY H c):=by
 induction c with
 |nil=>exact gT.refl
 |cons i r d=>
  intro H;simp only[cY];refine gT.trans ?_ (d _);refine⟨λid aY a=>?_⟩;rw[rM]at a;split at a
  .cases h:ah H id with
   |none=>rw[h]at a;cases a
   |some b=>rw[h]at a;simp at a;exact⟨b,rfl,.inr a.symm⟩
  .exact⟨aY,a,.inl rfl⟩
def Wf(a:List Nat):∀(H:Heap) (id:Nat) (aY:ca),id∈a->ah (cY H a) id=some aY->aY.fz=true:=by
 induction a with
 |nil=>intro H id aY h;simp at h
 |cons i r g=>
  intro H id aY h c;simp only[cY]at c;by_cases d:id∈r
  .exact g _ _ _ d c
  .have e:id=i:=by simpa[d]using h
   subst e;obtain⟨l,b,j⟩:=(lr r _).sub _ _ c;rw[rM,aq rfl]at b;cases f:ah H id with
   |none=>rw[f]at b;cases b
   |some k=>
    rw[f]at b;simp only[Option.map_some,aw]at b;subst b;rcases j with rfl|rfl<;>cases k<;>rfl
def Iy(l:List Nat)(H:Heap):gT H (cT H l):=⟨λid aY h=>⟨aY,gQ l H id aY h,.inl rfl⟩⟩
end
section
open Go.RowKit
def bT{w:World}{b o:Nat}{a:Array Value}{T:TypeId}{c:Nat×Nat}{v:Value}(d:w.heap[b]?=some (.cells a T c))(e:a[o]?=some v):
 w.cell? ⟨b,o,none⟩=some v:=by simp[World.cell?,d,e]
def fJ{w:World}{b o:Nat}{a:Array Value}{T:TypeId}(c:w.heap[b]?=some (.cells a T (0,0))):w.frozen? ⟨b,o,none⟩=false:=by
 simp[World.frozen?,c]
def hM(b o n:Nat):Addr.add ⟨b,o,none⟩ n=⟨b,o+n,none⟩:=by
 unfold Addr.add;split
 .subst_vars;rfl
 .rfl
def run_loadCellsFrom{P:Program}{w:World}{b:Nat}{c:Array Value}{T:TypeId}{g:Nat×Nat}(j:w.heap[b]?=some (.cells c T g))(a:Nat):
  ∀(n i:Nat) (d:Array Value),a+i+n<=c.size->(loadCellsFrom ⟨b,a,none⟩ i n d).run P w=.ok (d++c.extract (a+i) (a+i+n)) w:=by
 intro n;induction n with
 |zero=>intro i d h;simp[loadCellsFrom];omega
 |succ n k=>
  intro i d h;have f:a+i<c.size:=ae;have l:w.cell? (Addr.add ⟨b,a,none⟩ i)=some c[a+i]:=by
   rw[hM];exact bT j (by simp[f])
  simp only[loadCellsFrom,Sem.run_bind,run_load,l,Result.andThen_ok];rw[k (i+1) _ ae];congr 1;apply Array.ext';simp only[Array.toList_append,wu,Array.toList_extract,List.append_assoc,List.extract_eq_take_drop];congr 1;rw[show a+i+(n+1)-(a+i)=n+1 from ae,show a+(i+1)+n-(a+(i+1))=n from ae];have e:a+(i+1)=a+i+1:=ae;rw[e,List.drop_eq_getElem_cons (i:=a+i) (by simpa using f)];simp
def run_loadCells{P:Program}{w:World}{b a n:Nat}{c:Array Value}{T:TypeId}{d:Nat×Nat}(e:w.heap[b]?=some (.cells c T d))(h:a+n<=c.size):
  (loadCells ⟨b,a,none⟩ n).run P w=.ok (c.extract a (a+n)) w:=by
 rw[loadCells,run_loadCellsFrom e a n 0 #[] ae];simp
def cu(w:World)(b:Nat)(a:Array Value)(T:TypeId)(c:Nat×Nat):World:={w with heap:=w.heap.setIfInBounds b (.cells a T c)}
def cA(a:Array Value)(o:Nat):List Value->Array Value
 |[]=>a
 |v::r=>cA (a.setIfInBounds o v) (o+1) r
def bW(l:List Value):∀(a:Array Value) (o:Nat),(cA a o l).size=a.size:=by
 induction l with
 |nil=>intro a o;rfl
 |cons v r b=>intro a o;simp[cA,b]
def fg(l:List Value):∀(a:Array Value) (o k:Nat),o+l.length<=a.size->
  (cA a o l)[k]?=if o<=k/\k<o+l.length then l[k-o]? else a[k]?:=by
 induction l with
 |nil=>
  intro a o k h;have:¬(o<=k/\k<o+([]:List Value).length):=aB;rw[an this];rfl
 |cons v r c=>
  intro a o k h;simp only[List.length_cons]at h⊢;simp only[cA];rw[c _ _ _ (by simp;omega)];by_cases b:o+1<=k/\k<o+1+r.length
  .rw[aq b,aq ⟨ae,ae⟩];obtain⟨j,rfl⟩:∃j,k=o+1+j:=⟨k-(o+1),ae⟩;rw[show o+1+j-(o+1)=j from ae,show o+1+j-o=j+1 from ae];simp
  .rw[an b];by_cases d:k=o
   .subst d;have e:k<a.size:=ae;rw[aq ⟨ae,ae⟩];simp[e]
   .rw[an ae];rw[kL ae]
def dI(w:World)(b:Nat)(a:Array Value)(T:TypeId)(c:Nat×Nat)(k:Nat):
  (cu w b a T c).heap[k]?=if b=k/\b<w.heap.size then some (.cells a T c)else w.heap[k]?:=by
 simp only[cu];by_cases h:b=k
 .subst h;by_cases d:b<w.heap.size
  .simp[d]
  .simp[d]
 .rw[kL h,an (λe=>h e.1)]
def Hb{w:World}{b:Nat}{a:Array Value}{T:TypeId}{c:Nat×Nat}(e:w.heap[b]?=some (.cells a T c)):cu w b a T c=w:=by
 have d:=aM e;have:w.heap.setIfInBounds b (.cells a T c)=w.heap:=by
  apply D4;intro i;by_cases h:b=i
  .subst h;rw[e];simp[d]
  .rw[kL h]
 simp only[cu,this]
def lP{w:World}{b:Nat}{a:Array Value}{T:TypeId}{d:Nat×Nat}(e:w.heap[b]?=some (.cells a T d))(o:Nat)(v:Value):
  w.setCell ⟨b,o,none⟩ v=cu w b (a.setIfInBounds o v) T d:=by
 have c:=aM e;simp only[World.setCell,cu];congr 1;apply D4;intro i;rw[G6];by_cases h:b=i
 .subst h;rw[e];simp[c]
 .simp[h]
def mQ(w:World)(b:Nat)(d a:Array Value)(T e:TypeId)(f c:Nat×Nat):cu (cu w b d T f) b a e c=cu w b a e c:=by
 simp[cu]
def j1{P:Program}{b off:Nat}{T:TypeId}(d:List Value):∀(i:Nat) (w:World) (a:Array Value),w.heap[b]?=some (.cells a T (0,0))->
  (∀v∈d,v.oneCell'=true)->off+i+d.length<=a.size->
  (storeCells ⟨b,off,none⟩ d i).run P w=.ok () (cu w b (cA a (off+i) d) T (0,0)):=by
 induction d with
 |nil=>intro i w a c _ _;simp only[storeCells,Sem.run_pure,cA];rw[Hb c]
 |cons v r h=>
  intro i w a c g j;simp only[List.length_cons]at j;have f:off+i<a.size:=ae;have k:w.cell? (Addr.add ⟨b,off,none⟩ i)=some a[off+i]:=by rw[hM];exact bT c (by simp[f])
  have l:w.frozen? (Addr.add ⟨b,off,none⟩ i)=false:=by rw[hM];exact fJ c
  simp only[storeCells,Sem.run_bind,run_store P w _ v _ (g v aB),k,l,Bool.false_eq_true,cy,Result.andThen_ok];rw[hM,lP c];have e:=aM c;rw[h (i+1) _ (a.setIfInBounds (off+i) v) (by rw[dI,aq ⟨rfl,e⟩]) (λx m=>g x (by simp[m])) (by simp;omega)];rw[mQ];rfl
def BB{a:Array Value}{T:TypeId}{b:Nat×Nat}:¬rI (.cells a T b):=by
 rintro(⟨_,_,_,_,e⟩|⟨_,_,e⟩)<;>cases e
def ED{a:Array MapEntry}{c:Nat}:¬rI (.map a c):=by
 rintro(⟨_,_,_,_,e⟩|⟨_,_,e⟩)<;>cases e
def nX{w:World}{B b:Nat}{c a:Array Value}{T f:TypeId}{g d:Nat×Nat}(h:B<=b)(i:w.heap[b]?=some (.cells a f d)):Below B w (cu w b c T g):=by
 refine⟨⟨rfl,rfl,rfl,by simp[cu],λk l=>?_⟩,Nat.le_refl _,λk o j e=>?_⟩
 .rw[dI,an (λe=>ae)]
 .rw[dI,an ?_]
  .exact e
  .rintro⟨rfl,_⟩;rw[i]at e;cases e;exact BB j
def ix{w:World}{B:Nat}(h:B<=w.heap.size)(o:Obj):Below B w (w.alloc o):=(Below.refl B w).alloc h o
def heap_alloc(w:World)(o:Obj)(k:Nat):(w.alloc o).heap[k]?=if k=w.heap.size then some o else w.heap[k]?:=by
 simp only[World.alloc];rw[HV]
def eA(B:Nat)(w:World):Below B w w.drew:=(Below.refl B w).drew
end
end Go.Dv
