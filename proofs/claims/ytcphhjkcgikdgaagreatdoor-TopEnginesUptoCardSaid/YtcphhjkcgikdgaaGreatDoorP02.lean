/- Lemmas for the law of this claim. -/
import Derived.Test.YtcphhjkcgikdgaaGreatDoorP01
import Derived.Laws.World
set_option linter.all false
namespace Go.Dv
def aw{a:Type}(k:Nat)(v:a)(r:List (Nat×a))(i:Nat):ag ((k,v)::r) i=if k=i then some v else ag r i:=by
 by_cases h:k=i<;>simp[ag,h]
def kb(e:Env)(i:Nat)(d:DV)(k:Nat):ag (fI e i d) k=if i=k then some d else ag e k:=by
 induction e with
 |nil=>simp[fI,aw,ag]
 |cons x r b=>
  obtain⟨j,v⟩:=x;by_cases h:j=i
  .subst h;simp only[fI,beq_self_eq_true,cQ,aw];split<;>rfl
  .have c:(j==i)=false:=by simpa using h
   simp only[fI,c,Bool.false_eq_true,cK];split
   .simp only[aw]
   .simp only[aw,b];by_cases a:j=k
    .subst a;have:¬i=j:=λe=>h e.symm
     simp[this]
    .simp[a]
def eC{c:Type}(e:List (Nat×c))(i k:Nat):ag (jJ e i) k=if i=k then none else ag e k:=by
 induction e with
 |nil=>simp[jJ,ag]
 |cons x r a=>
  obtain⟨j,v⟩:=x;by_cases h:j=i
  .subst h;simp only[jJ,beq_self_eq_true,cQ,a,aw];split<;>rfl
  .have d:(j==i)=false:=by simpa using h
   simp only[jJ,d,Bool.false_eq_true,cK,aw,a];by_cases b:j=k
   .subst b;have:¬i=j:=λe=>h e.symm
    simp[this]
   .simp[b]
def gX{a:Type}(l:List Nat):∀(e:List (Nat×a)) (k:Nat) (v:a),ag (da e l) k=some v->ag e k=some v:=by
 induction l with
 |nil=>intro e k v h;exact h
 |cons i r b=>
  intro e k v h;have:=b _ _ _ h;rw[eC]at this;split at this
  .cases this
  .exact this
def aA(e:Heap)(i:Nat)(d:bq)(k:Nat):ag (aC e i d) k=if i=k then(ag e k).map (λ_=>d)else ag e k:=by
 induction e with
 |nil=>simp[aC,ag]
 |cons x r b=>
  obtain⟨j,v⟩:=x;by_cases h:j=i
  .subst h;simp only[aC,beq_self_eq_true,cQ,aw];split<;>simp
  .have c:(j==i)=false:=by simpa using h
   simp only[aC,c,Bool.false_eq_true,cK,aw,b];by_cases a:j=k
   .subst a;have:¬i=j:=λe=>h e.symm
    simp[this]
   .simp[a]
def nD(c:Nat)(h:Heap)(k:Nat)(b:bq)(a:ag (aD c h) k=some b):k<c/\∃g,ag h k=some g:=by
 induction h with
 |nil=>simp[aD,ag]at a
 |cons x r f=>
  obtain⟨j,v⟩:=x;simp only[aD]at a;rw[aw];split at a
  .rw[aw]at a;split at a
   .rename_i e d;subst d;exact⟨e,v,az⟩
   .rename_i e d;rw[ak d];exact f a
  .have:=f a;split
   .rename_i e d;subst d;exact absurd this.1 e
   .exact this
def cY(c:Nat)(h:Heap)(k:Nat)(b:k<c):ag (aD c h) k=ag h k:=by
 induction h with
 |nil=>rfl
 |cons x r a=>
  obtain⟨j,v⟩:=x;simp only[aD,aw];split
  .rw[aw,a]
  .rename_i d;have:¬j=k:=ae;rw[ak this,a]
def fj{d j:Type}{f:d->Option j}:∀{l:List d} {r:List j},bP f l=some r->r.length=l.length/\∀(i:Nat) (a:d),l[i]?=some a->∃b,r[i]?=some b/\f a=some b
 |[],r,h=>by simp[bP]at h;subst h;exact⟨rfl,az⟩
 |a::l,r,h=>by
  simp only[bP]at h;cases e:f a with
  |none=>simp[e]at h
  |some b=>
   simp only[e]at h;cases g:bP f l with
   |none=>simp[g]at h
   |some n=>
    simp only[g,ay]at h;subst h;obtain⟨k,m⟩:=fj g;refine⟨by simp[k],λi x c=>?_⟩;cases i with
    |zero=>simp only[List.getElem?_cons_zero,ay]at c;subst c;exact⟨b,az,e⟩
    |succ i=>simp only[List.getElem?_cons_succ]at c⊢;exact m i x c
structure lO(es:Array MapEntry)(clock n:Nat)(f:SM):Prop where
 size:es.size=n
 BV:∀e∈es.toList,e.born<clock
 born:es.toList.Pairwise λx y=>x.born≠y.born
 keys:es.toList.Pairwise λx y=>x.key≠y.key
 to:∀e∈es.toList,∃k y,e.key=.string k/\f k=some y/\e.val=y.v
 from_:∀k y,f k=some y->∃e∈es.toList,e.key=.string k
inductive bN(w:World)(U:Nat->Prop):PV->Value->Prop
 |int (k:IntKind) (n:Int):bN w U (.int k n) (.int k n)
 |bool (b:Bool):bN w U (.bool b) (.bool b)
 |str (s:ByteArray):bN w U (.str s) (.string s)
 |none (full:Bool) (a:Option Addr) (c:Nat) (h:full=true->c=0):bN w U (.slice full []) (.slice a 0 c)
 |slice (full:Bool) (xs:List (List PV)) (b off c sz:Nat) (arr:Array Value) (T:TypeId) (fz:Nat×Nat) (vs:Nat->Nat->Value)
  (hne:0<xs.length) (hc:xs.length<=c) (hf:full=true->c=xs.length) (hb:w.heap[b]?=some (.cells arr T fz)) (hu:¬U b)
  (hsz:∀x∈xs,x.length=sz)
  (hv:∀i x j y,xs[i]?=some x->x[j]?=some y->arr[off+i*sz+j]?=some (vs i j))
  (h1:∀i x j y,xs[i]?=some x->x[j]?=some y->(vs i j).oneCell'=true)
  (hr:∀i x j y,xs[i]?=some x->x[j]?=some y->bN w U y (vs i j)):
  bN w U (.slice full xs) (.slice (some ⟨b,off,.none⟩) xs.length c)
 |dT (cs:List PV) (b off:Nat) (arr:Array Value) (T:TypeId) (fz:Nat×Nat) (vs:Nat->Value)
  (hb:w.heap[b]?=some (.cells arr T fz)) (hu:¬U b)
  (hv:∀j y,cs[j]?=some y->arr[off+j]?=some (vs j))
  (h1:∀j y,cs[j]?=some y->(vs j).oneCell'=true)
  (hr:∀j y,cs[j]?=some y->bN w U y (vs j)):
  bN w U (.dT cs) (.pointer (some ⟨b,off,.none⟩))
 |func (f:FuncId) (caps:List PV) (vs:Array Value) (hl:vs.size=caps.length)
  (hr:∀j y,caps[j]?=some y->bN w U y (vs.getD j undef)):bN w U (.func f caps) (.func (.func f) #[] vs)
 |agg (cs:List PV) (vs:Array Value) (hl:vs.size=cs.length) (h1:∀j y,cs[j]?=some y->(vs.getD j undef).oneCell'=true)
  (hr:∀j y,cs[j]?=some y->bN w U y (vs.getD j undef)):bN w U (.agg cs) (.agg vs)
 |tuple (cs:List PV) (vs:Array Value) (hl:vs.size=cs.length)
  (hr:∀j y,cs[j]?=some y->bN w U y (vs.getD j undef)):bN w U (.tuple cs) (.tuple vs)
 |undef (v:Value):bN w U .undef v
 |map (n:Nat) (f:SM) (b:Nat) (es:Array MapEntry) (clock:Nat) (hb:w.heap[b]?=some (.map es clock)) (hu:¬U b) (hm:lO es clock n f):bN w U (.map n f) (.map (some b))
 |iface (t:Nat) (p:PV) (v:Value) (h:bN w U p v):bN w U (.iface t p) (.iface t v)
 |z (a:Option Addr) (c:Nat):bN w U (.z a.isNone) (.slice a 0 c)
def M9(o:Obj):Prop:=(∃a T b,o=.cells a T b)\/∃d c,o=.map d c
def M9.mk{a:Array Value}{T:TypeId}{b:Nat×Nat}:M9 (.cells a T b):=.inl ⟨_,_,_,rfl⟩
def M9.map{a:Array MapEntry}{c:Nat}:M9 (.map a c):=.inr ⟨_,_,rfl⟩
structure eJ(w:World)(U:Nat->Prop)(w':World)(U':Nat->Prop):Prop where
 block:∀b o,M9 o->¬U b->w.heap[b]?=some o->w'.heap[b]?=some o
 out:∀b o,M9 o->¬U b->w.heap[b]?=some o->¬U' b
def bN.lI{w E:World}{U F:Nat->Prop}(h:eJ w U E F){p:PV}{v:Value}(G:bN w U p v):bN E F p v:=by
 induction G with
 |int k n=>exact .int k n
 |bool b=>exact .bool b
 |str s=>exact .str s
 |none d a c h=>exact .none d a c h
 |slice d H b l c I m T A g B J K i j C D q y e=>
  exact .slice d H b l c I m T A g B J K (h.block _ _ .mk j i) (h.out _ _ .mk j i) C D q e
 |dT r b l m T A g i j D q y e=>exact .dT r b l m T A g (h.block _ _ .mk j i) (h.out _ _ .mk j i) D q e
 |func f u g x y e=>exact .func f u g x e
 |agg r g x q y e=>exact .agg r g x q e
 |tuple r g x y e=>exact .tuple r g x e
 |undef v=>exact .undef v
 |map n f b L o i j M=>exact .map n f b L o (h.block _ _ .map j i) (h.out _ _ .map j i) M
 |iface t p v G e=>exact .iface t p v e
 |z a c=>exact .z a c
def bN.zi{w:World}{U:Nat->Prop}{p:PV}{v:Value}(a:bN w U p v)(h:p.iz=true):v.oneCell'=true:=by
 cases a<;>first|rfl|simp[PV.iz]at h
abbrev Place:=Nat->Option (Nat×Nat)
def Az{f:Type}(e:Place)(id c n g:Nat)(h:List f)(v:Value):Prop:=
 (h=[]/\e id=none/\∃a,v=.slice a 0 0)\/
 ∃b d a,e id=some (b,d)/\v=.slice a n (d-c)/\(0<n\/c=0->a=some ⟨b,c*g,none⟩)
inductive bg(w:World)(U:Nat->Prop)(β:Place)(H:Heap)(nx:Nat):DV->Value->Prop
 |p (v:PV) (x:Value) (h:bN w U v x):bg w U β H nx (.p v) x
 |agg (cs:List DV) (vs:Array Value) (hl:vs.size=cs.length) (h1:∀j y,cs[j]?=some y->(vs.getD j undef).oneCell'=true)
  (hr:∀j y,cs[j]?=some y->bg w U β H nx y (vs.getD j undef)):bg w U β H nx (.agg cs) (.agg vs)
 |tuple (cs:List DV) (vs:Array Value) (hl:vs.size=cs.length)
  (hr:∀j y,cs[j]?=some y->bg w U β H nx y (vs.getD j undef)):bg w U β H nx (.tuple cs) (.tuple vs)
 |ref (id sj off n:Nat) (v:Value) (hid:id<nx) (hc:v.oneCell'=true)
  (h:∀fz sz xs,ag H id=some (.row fz sz xs)->sj<=xs.length/\(sj=xs.length->off+n<=xs.length->Az β id off n sz xs v))
  (hd:∀fz sz xs,ag H id=some (.aV fz sz xs)->sj<=xs.length/\(sj=xs.length->off+n<=xs.length->Az β id off n sz xs v)):bg w U β H nx (.ref id sj off n) v
 |ptr (id off:Nat) (v:Value) (hid:id<nx) (hc:v.oneCell'=true)
  (h:∀fz cs,ag H id=some (.var fz cs)->∃b c,β id=some (b,c)/\v=.pointer (some ⟨b,off,none⟩))
  (hm:∀fz kv,ag H id=some (.map fz kv)->∃b c,β id=some (b,c)/\v=.map (some b)):bg w U β H nx (.ptr id off) v
 |dA (id sj i off:Nat) (v:Value) (hid:id<nx) (hc:v.oneCell'=true)
  (h:∀fz sz xs,ag H id=some (.row fz sz xs)->sj<=xs.length/\(sj=xs.length->i<xs.length->∃b c,β id=some (b,c)/\v=.pointer (some ⟨b,i*sz+off,none⟩)))
  (hd:∀fz sz xs,ag H id=some (.aV fz sz xs)->sj<=xs.length/\(sj=xs.length->i<xs.length->∃b c,β id=some (b,c)/\v=.pointer (some ⟨b,i*sz+off,none⟩))):bg w U β H nx (.dA id sj i off) v
 |func (f:FuncId) (caps:List DV) (vs:Array Value) (hl:vs.size=caps.length)
  (hr:∀j y,caps[j]?=some y->bg w U β H nx y (vs.getD j undef)):bg w U β H nx (.func f caps) (.func (.func f) #[] vs)
 |kK (f:FuncId) (first:List DV) (vs:Array Value) (hl:vs.size=first.length)
  (hr:∀j y,first[j]?=some y->bg w U β H nx y (vs.getD j undef)):bg w U β H nx (.kK f first) (.func (.func f) vs #[])
structure mn(β:Place)(H:Heap)(nx:Nat)(EF:Place)(H':Heap)(nx':Nat):Prop where
 next:nx<=nx'
 row:∀id,id<nx->∀fz sz xs,ag H' id=some (.row fz sz xs)->∃fz0 xs0,ag H id=some (.row fz0 sz xs0)/\xs0.length<=xs.length/\(xs0.length=xs.length->EF id=β id)
 var:∀id,id<nx->∀fz cs,ag H' id=some (.var fz cs)->∃fz0 cs0,ag H id=some (.var fz0 cs0)/\EF id=β id
 map:∀id,id<nx->∀fz kv,ag H' id=some (.map fz kv)->∃fz0 kv0,ag H id=some (.map fz0 kv0)/\EF id=β id
 aV:∀id,id<nx->∀fz sz xs,ag H' id=some (.aV fz sz xs)->∃fz0 xs0,ag H id=some (.aV fz0 sz xs0)/\xs0.length<=xs.length/\(xs0.length=xs.length->EF id=β id)
def mn.refl(d:Place)(H:Heap)(e:Nat):mn d H e d H e:=
 ⟨Nat.le_refl _,λ_ _ a _ b h=>⟨a,b,h,Nat.le_refl _,λ_=>rfl⟩,λ_ _ a c h=>⟨a,c,h,rfl⟩,λ_ _ a c h=>⟨a,c,h,rfl⟩,λ_ _ a _ b h=>⟨a,b,h,Nat.le_refl _,λ_=>rfl⟩⟩
def Az.congr{i:Type}{d a:Place}{id b n e:Nat}{f c:List i}{v:Value}(j:f.length=c.length)(g:a id=d id)(h:Az d id b n e f v):Az a id b n e c v:=by
 rcases h with⟨rfl,k,l⟩|h
 .left;exact⟨by simpa using j.symm,by rw[g,k],l⟩
 .right;rw[g];exact h
def bg.cw{w J:World}{U K:Nat->Prop}{β B:Place}{H L:Heap}{M C:Nat}(N:eJ w U J K)(o:mn β H M B L C)
  {d:DV}{v:Value}(h:bg w U β H M d v):bg J K B L C d v:=by
 induction h with
 |p v x h=>exact .p v x (h.lI N)
 |agg q r s D F t=>exact .agg q r s D t
 |tuple q r s F t=>exact .tuple q r s t
 |func f q r s F t=>exact .func f q r s t
 |kK f q r s F t=>exact .kK f q r s t
 |ref id u b n v hid E h G=>
  refine .ref id u b n v (rm hid o.next) E (λc y g j=>?_) (λc y g j=>?_)
  .obtain⟨k,a,l,z,m⟩:=o.row id hid c y g j;obtain⟨D,A⟩:=h _ _ _ l;refine⟨ae,λI O=>?_⟩;have e:a.length=g.length:=ae;exact(A ae ae).congr e (m e)
  .obtain⟨k,a,l,z,m⟩:=o.aV id hid c y g j;obtain⟨D,A⟩:=G _ _ _ l;refine⟨ae,λI O=>?_⟩;have e:a.length=g.length:=ae;exact(A ae ae).congr e (m e)
 |ptr id b v hid E h P=>
  refine .ptr id b v (rm hid o.next) E (λc q j=>?_) (λc Q j=>?_)
  .obtain⟨k,R,l,m⟩:=o.var id hid c q j;rw[m];exact h _ _ l
  .obtain⟨k,S,l,m⟩:=o.map id hid c Q j;rw[m];exact P _ _ l
 |dA id u i b v hid E h G=>
  refine .dA id u i b v (rm hid o.next) E (λc y g j=>?_) (λc y g j=>?_)
  .obtain⟨k,a,l,z,m⟩:=o.row id hid c y g j;obtain⟨D,A⟩:=h _ _ _ l;refine⟨ae,λI T=>?_⟩;have e:a.length=g.length:=ae;rw[m e];exact A ae ae
  .obtain⟨k,a,l,z,m⟩:=o.aV id hid c y g j;obtain⟨D,A⟩:=G _ _ _ l;refine⟨ae,λI T=>?_⟩;have e:a.length=g.length:=ae;rw[m e];exact A ae ae
def bg.zi{w:World}{U:Nat->Prop}{c:Place}{H:Heap}{e:Nat}{d:DV}{v:Value}(a:bg w U c H e d v)(h:d.iz=true):v.oneCell'=true:=by
 cases a with
 |p v x a=>exact a.zi h
 |ref _ _ _ _ _ _ b _ _|ptr _ _ _ _ b _ _|dA _ _ _ _ _ _ b _ _=>exact b
 |func|kK=>rfl
 |agg|tuple=>simp[DV.iz]at h
def kJ(w:World)(U:Nat->Prop)(m:Place)(H:Heap)(r:Nat)(B:Nat)(id:Nat):bq->Prop
 | .var _ s=>∃b c a T,m id=some (b,c)/\B<=b/\w.heap[b]?=some (.cells a T (0,0))/\a.size=s.length/\
  (∀j d,s[j]?=some d->(a.getD j undef).oneCell'=true)/\∀j d,s[j]?=some d->bg w U m H r d (a.getD j undef)
 | .row _ p l=>(l=[]/\m id=none)\/∃b h a T,m id=some (b,h)/\B<=b/\w.heap[b]?=some (.cells a T (0,0))/\a.size=h*p/\l.length<=h/\
  (∀x∈l,x.length=p)/\∃q:Nat->Nat->Value,(∀i x j y,l[i]?=some x->x[j]?=some y->a[i*p+j]?=some (q i j))/\
  (∀i x j y,l[i]?=some x->x[j]?=some y->(q i j).oneCell'=true)/\∀i x j y,l[i]?=some x->x[j]?=some y->bN w U y (q i j)
 | .map _ (.strs n f)=>∃b c o g,m id=some (b,c)/\B<=b/\w.heap[b]?=some (.map o g)/\lO o g n f
 | .map _ (.ints t)=>∃b c o g,m id=some (b,c)/\B<=b/\w.heap[b]?=some (.map o g)/\o.size=t.length/\((∀e∈o.toList,e.born<g)/\o.toList.Pairwise λx y=>x.born≠y.born)/\
  ∀(j:Nat) (k:Int) (d:DV),t[j]?=some (k,d)->∃e,o[j]?=some e/\e.key=.int .i64 k/\e.val.oneCell'=true/\bg w U m H r d e.val
 | .aV _ p l=>(l=[]/\m id=none)\/∃b h a T,m id=some (b,h)/\B<=b/\w.heap[b]?=some (.cells a T (0,0))/\a.size=h*p/\l.length<=h/\
  (∀x∈l,x.length=p)/\∃q:Nat->Nat->Value,(∀i x j y,l[i]?=some x->x[j]?=some y->a[i*p+j]?=some (q i j))/\
  (∀i x j y,l[i]?=some x->x[j]?=some y->(q i j).oneCell'=true)/\∀i x j y,l[i]?=some x->x[j]?=some y->bg w U m H r y (q i j)
def bq.fz:bq->Bool
 | .aV f _ _=>f
 | .var f _=>f
 | .row f _ _=>f
 | .map f _=>f
def Own(a:Nat->Prop)(d:Place)(H:Heap):Nat->Prop:=λb=>a b\/∃id aZ c,ag H id=some aZ/\aZ.fz=false/\d id=some (b,c)
structure aak(w:World)(U0:Nat->Prop)(β:Place)(H:Heap)(nx:Nat)(B:Nat):Prop where
 lt:∀id aZ,ag H id=some aZ->id<nx
 aZ:∀id aZ,ag H id=some aZ->kJ w (Own U0 β H) β H nx B id aZ
 inj:∀id aZ id' blk' b c c',ag H id=some aZ->ag H id'=some blk'->β id=some (b,c)->β id'=some (b,c')->id=id'
section
open Go.RowKit
def aO{w:World}{b:Nat}{o:Obj}(h:w.heap[b]?=some o):b<w.heap.size:=by
 rcases bS b w.heap.size with a|a
 .exact a
 .simp[ug a]at h
structure Mem(B:Nat)(w0:World)(U0:Nat->Prop)(β:Place)(H:Heap)(nx:Nat)(w:World):Prop where
 below:Below B w0 w
 bsize:B<=w.heap.size
 u0:∀b,U0 b->b<B
 h:aak w U0 β H nx B
 tab:mh B w
def kJ.carry{w L:World}{U R:Nat->Prop}{J v:Place}{H S:Heap}{V D B id:Nat}{aZ:bq}
  (K:eJ w U L R)(M:mn J H V v S D)(m:v id=J id)
  (E:∀b c o,J id=some (b,c)->w.heap[b]?=some o->L.heap[b]?=some o)
  (h:kJ w U J H V B id aZ):kJ L R v S D B id aZ:=by
 cases aZ with
 |var f Z=>
  obtain⟨b,c,s,T,l,r,t,u,z,A⟩:=h;exact⟨b,c,s,T,by rw[m,l],r,E _ _ _ l t,u,z,λj d N=>(A j d N).cw K M⟩
 |row f X Y=>
  rcases h with⟨l,r⟩|⟨b,C,s,T,l,r,t,u,z,A,O,F,G,I⟩
  .exact .inl ⟨l,by rw[m,r]⟩
  .exact .inr ⟨b,C,s,T,by rw[m,l],r,E _ _ _ l t,u,z,A,O,F,G,λi x j y a b=>(I i x j y a b).lI K⟩
 |map f W=>
  cases W with
  |strs n g=>
   obtain⟨b,c,P,q,l,r,t,u⟩:=h;exact⟨b,c,P,q,by rw[m,l],r,E _ _ _ l t,u⟩
  |ints W=>
  obtain⟨b,c,P,q,l,r,t,u,Q,z⟩:=h;refine⟨b,c,P,q,by rw[m,l],r,E _ _ _ l t,u,Q,λj k p N=>?_⟩;obtain⟨e,A,F,G,I⟩:=z j k p N;exact⟨e,A,F,G,I.cw K M⟩
 |aV f X Y=>
  rcases h with⟨l,r⟩|⟨b,C,s,T,l,r,t,u,z,A,O,F,G,I⟩
  .exact .inl ⟨l,by rw[m,r]⟩
  .exact .inr ⟨b,C,s,T,by rw[m,l],r,E _ _ _ l t,u,z,A,O,F,G,λi x j y a b=>(I i x j y a b).cw K M⟩
def kJ.there{w:World}{U:Nat->Prop}{k:Place}{H:Heap}{m B id:Nat}{aZ:bq}(h:kJ w U k H m B id aZ){b c:Nat}(g:k id=some (b,c)):
  B<=b/\∃o,w.heap[b]?=some o:=by
 cases aZ with
 |var f t=>
  obtain⟨l,n,i,T,a,d,e,_⟩:=h;rw[g]at a;simp at a;obtain⟨rfl,rfl⟩:=a;exact⟨d,_,e⟩
 |row f p q|aV f p q=>
  rcases h with⟨_,d⟩|⟨l,r,i,T,a,d,e,_⟩
  .rw[g]at d;cases d
  .rw[g]at a;simp at a;obtain⟨rfl,rfl⟩:=a;exact⟨d,_,e⟩
 |map f s=>
  cases s<;>
  .obtain⟨l,n,u,j,a,d,e,_⟩:=h;rw[g]at a;simp at a;obtain⟨rfl,rfl⟩:=a;exact⟨d,_,e⟩
structure qE(β:Place)(H:Heap)(nx:Nat)(w:World)(EF:Place)(H':Heap)(nx':Nat)(w':World)(id:Nat)(blk':bq):Prop where
 heap:∀k,k≠id->ag H' k=ag H k
 at_:ag H' id=some blk'
 fz:blk'.fz=false
 place:∀k,k≠id->EF k=β k
 next:nx<=nx'
 lt:id<nx'
 BV:(ag H id=none/\nx<=id)\/∃aZ,ag H id=some aZ/\aZ.fz=false/\
  match aZ,blk' with
  | .var _ _,.var _ _=>EF id=β id
  | .row _ sz xs,.row _ sz' xs'=>sz=sz'/\xs.length<=xs'.length/\(xs.length=xs'.length->EF id=β id)
  | .map _ _,.map _ _=>EF id=β id
  | .aV _ sz xs,.aV _ sz' xs'=>sz=sz'/\xs.length<=xs'.length/\(xs.length=xs'.length->EF id=β id)
  |_,_=>False
 world:∀b o,w.heap[b]?=some o->w'.heap[b]?=some o\/∃c aZ,β id=some (b,c)/\ag H id=some aZ
 new:∀b c,EF id=some (b,c)->w.heap.size<=b\/∃c' aZ,β id=some (b,c')/\ag H id=some aZ
def qE.keeps{U0:Nat->Prop}{β g:Place}{H r:Heap}{t l id:Nat}{w s:World}{i:bq}(u:qE β H t w g r l s id i):
  eJ w (Own U0 β H) s (Own U0 g r):=by
 have a:∀b c aZ,β id=some (b,c)->ag H id=some aZ->Own U0 β H b:=by
  intro b c aZ e f;rcases u.BV with⟨h,_⟩|⟨d,h,v,_⟩
  .rw[h]at f;cases f
  .exact .inr ⟨id,d,c,h,v,e⟩
 constructor
 .intro b o _ j m;rcases u.world b o m with h|⟨c,aZ,e,f⟩
  .exact h
  .exact absurd (a _ _ _ e f) j
 .intro b o _ j m n;rcases n with n|⟨k,aZ,c,e,f,p⟩
  .exact j (.inl n)
  .by_cases q:k=id
   .subst q;rcases u.new b c p with h|⟨z,d,x,y⟩
    .have:=aO m;omega
    .exact j (a _ _ _ x y)
   .rw[u.heap k q]at e;rw[u.place k q]at p;exact j (.inr ⟨k,aZ,c,e,f,p⟩)
def qE.cw{β i:Place}{H t:Heap}{v j id:Nat}{w x:World}{l:bq}(u:qE β H v w i t j x id l):mn β H v i t j:=by
 refine⟨u.next,λk n e y o h=>?_,λk n e m h=>?_,λk n e z h=>?_,λk n e y o h=>?_⟩
 .by_cases b:k=id
  .subst b;rw[u.at_]at h;cases h;rcases u.BV with⟨_,h⟩|⟨aZ,h,p,d⟩
   .omega
   .cases aZ with
    |var f m|map f m|aV f c a=>exact d.elim
    |row f c a=>obtain⟨rfl,q,r⟩:=d;exact⟨f,a,h,q,r⟩
  .rw[u.heap k b]at h;exact⟨e,o,h,Nat.le_refl _,λ_=>u.place k b⟩
 .by_cases b:k=id
  .subst b;rw[u.at_]at h;cases h;rcases u.BV with⟨_,h⟩|⟨aZ,h,p,d⟩
   .omega
   .cases aZ with
    |var f g=>exact⟨f,g,h,d⟩
    |row f c a|map f g|aV f c a=>exact d.elim
  .rw[u.heap k b]at h;exact⟨e,m,h,u.place k b⟩
 .by_cases b:k=id
  .subst b;rw[u.at_]at h;cases h;rcases u.BV with⟨_,h⟩|⟨aZ,h,p,d⟩
   .omega
   .cases aZ with
    |var f g|row f c a|aV f c a=>exact d.elim
    |map f s=>exact⟨f,s,h,d⟩
  .rw[u.heap k b]at h;exact⟨e,z,h,u.place k b⟩
 .by_cases b:k=id
  .subst b;rw[u.at_]at h;cases h;rcases u.BV with⟨_,h⟩|⟨aZ,h,p,d⟩
   .omega
   .cases aZ with
    |var f m|map f m|row f c a=>exact d.elim
    |aV f c a=>obtain⟨rfl,q,r⟩:=d;exact⟨f,a,h,q,r⟩
  .rw[u.heap k b]at h;exact⟨e,o,h,Nat.le_refl _,λ_=>u.place k b⟩
def qE.mem{B:Nat}{I:World}{v:Nat->Prop}{D a:Place}{H x:Heap}{J l id:Nat}{w y:World}{g:bq}(u:qE D H J w a x l y id g)
  (m:Mem B I v D H J w)(i:Below B w y)(r:kJ y (Own v a x) a x l B id g):Mem B I v a x l y:=by
 have z:=u.keeps (U0:=v);have K:=u.cw;refine⟨m.below.trans i,ep m.bsize i.size,m.u0,⟨λk aZ h=>?_,λk aZ h=>?_,λk aZ n L b c p h A i d=>?_⟩,m.tab.below (Nat.le_refl _) i.toBelow⟩
 .by_cases z:k=id
  .rw[z];exact u.lt
  .rw[u.heap k z]at h;exact rm (m.h.lt _ _ h) u.next
 .by_cases f:k=id
  .subst f;rw[u.at_]at h;cases h;exact r
  .rw[u.heap k f]at h;refine(m.h.aZ k aZ h).carry z K (u.place k f) λb c o C E=>?_
   rcases u.world b o E with q|⟨p,s,q,F⟩
   .exact q
   .exact absurd (m.h.inj _ _ _ _ _ _ _ h F C q) f
 .have t:∀(k:Nat) (aZ:bq) (b c p:Nat),k≠id->ag H k=some aZ->D k=some (b,c)->a id=some (b,p)->False:=by
   intro k aZ b c p G h C E;rcases u.new b p E with q|⟨M,s,q,F⟩
   .obtain⟨_,o,N⟩:=(m.h.aZ k aZ h).there C;have:=aO N;omega
   .exact G (m.h.inj _ _ _ _ _ _ _ h F C q)
  by_cases e:k=id
  .by_cases j:n=id
   .rw[e,j]
   .rw[u.heap n j]at A;rw[u.place n j]at d;subst e;exact(t n L b p c j A d i).elim
  .rw[u.heap k e]at h;rw[u.place k e]at i;by_cases j:n=id
   .subst j;exact(t k aZ b c p e h i d).elim
   .rw[u.heap n j]at A;rw[u.place n j]at d;exact m.h.inj _ _ _ _ _ _ _ h A i d
def Mem.call{B:Nat}{g:World}{a:Nat->Prop}{d:Place}{H:Heap}{i:Nat}{w f:World}(m:Mem B g a d H i w)(e:Below w.heap.size w f):
  Mem B g a d H i f/\eJ w (Own a d H) f (Own a d H):=by
 have j:eJ w (Own a d H) f (Own a d H):=⟨λb o _ _ h=>by rw[e.block b (aO h)];exact h,λb o _ k _=>k⟩;refine⟨⟨m.below.trans (e.mono m.bsize),ep m.bsize e.size,m.u0,⟨m.h.lt,λid aZ h=>?_,m.h.inj⟩,m.tab.below m.bsize e.toBelow⟩,j⟩;exact(m.h.aZ id aZ h).carry j (mn.refl _ _ _) rfl λb c o _ h=>by rw[e.block b (aO h)];exact h
structure ig(H H':Heap):Prop where
 sub:∀id blk',ag H' id=some blk'->∃aZ,ag H id=some aZ/\(blk'=aZ\/blk'=aZ.freeze)
def ig.own{e:Nat->Prop}{f:Place}{H g:Heap}(l:ig H g){b:Nat}(h:Own e f g b):Own e f H b:=by
 rcases h with h|⟨id,a,c,j,i,k⟩
 .exact .inl h
 .obtain⟨aZ,m,d|d⟩:=l.sub id a j
  .subst d;exact .inr ⟨id,_,c,m,i,k⟩
  .subst d;cases aZ<;>simp[bq.freeze,bq.fz]at i
def ig.keeps{U0:Nat->Prop}{β:Place}{H a:Heap}(l:ig H a)(w:World):eJ w (Own U0 β H) w (Own U0 β a):=
 ⟨λ_ _ _ _ h=>h,λ_ _ _ b _ c=>b (l.own c)⟩
def ig.cw{β:Place}{H g:Heap}(l:ig H g){i d:Nat}(j:i<=d):mn β H i β g d:=by
 refine⟨j,λid _ c k e h=>?_,λid _ c f h=>?_,λid _ c f h=>?_,λid _ c k e h=>?_⟩
 .obtain⟨aZ,b,a|a⟩:=l.sub _ _ h
  .subst a;exact⟨c,e,b,Nat.le_refl _,λ_=>rfl⟩
  .cases aZ<;>simp[bq.freeze]at a
   obtain⟨_,rfl,rfl⟩:=a;exact⟨_,_,b,Nat.le_refl _,λ_=>rfl⟩
 .obtain⟨aZ,b,a|a⟩:=l.sub _ _ h
  .subst a;exact⟨c,f,b,rfl⟩
  .cases aZ<;>simp[bq.freeze]at a
   obtain⟨_,rfl⟩:=a;exact⟨_,_,b,rfl⟩
 .obtain⟨aZ,b,a|a⟩:=l.sub _ _ h
  .subst a;exact⟨c,f,b,rfl⟩
  .cases aZ<;>simp[bq.freeze]at a
   obtain⟨_,rfl⟩:=a;exact⟨_,_,b,rfl⟩
 .obtain⟨aZ,b,a|a⟩:=l.sub _ _ h
  .subst a;exact⟨c,e,b,Nat.le_refl _,λ_=>rfl⟩
  .cases aZ<;>simp[bq.freeze]at a
   obtain⟨_,rfl,rfl⟩:=a;exact⟨_,_,b,Nat.le_refl _,λ_=>rfl⟩
def kJ.freeze{w:World}{U:Nat->Prop}{a:Place}{H:Heap}{b B id:Nat}{aZ:bq}(h:kJ w U a H b B id aZ):kJ w U a H b B id aZ.freeze:=by
 cases aZ with
 |map f c=>cases c<;>exact h
 |_=>exact h
def Mem.less{B:Nat}{k:World}{e:Nat->Prop}{f:Place}{H n:Heap}{g:Nat}{w:World}(m:Mem B k e f H g w)(l:ig H n):
  Mem B k e f n g w:=by
 refine⟨m.below,m.bsize,m.u0,⟨λid aZ h=>?_,λid aZ h=>?_,λid aZ p o b c s h q r i=>?_⟩,m.tab⟩
 .obtain⟨j,d,_⟩:=l.sub _ _ h;exact m.h.lt _ _ d
 .obtain⟨j,d,a⟩:=l.sub _ _ h;have:=(m.h.aZ id j d).carry (l.keeps (U0:=e) w) (l.cw (β:=f) (Nat.le_refl g)) rfl (λ_ _ _ _ h=>h);rcases a with a|a
  .subst a;exact this
  .subst a;exact this.freeze
 .obtain⟨j,d,_⟩:=l.sub _ _ h;obtain⟨t,a,_⟩:=l.sub _ _ q;exact m.h.inj _ _ _ _ _ _ _ d a r i
def ig.refl(H:Heap):ig H H:=⟨λid aZ h=>⟨aZ,h,.inl rfl⟩⟩
def bq.Dq(b:bq):b.freeze.freeze=b.freeze:=by cases b<;>rfl
def ig.trans{H d c:Heap}(a:ig H d)(b:ig d c):ig H c:=by
 refine⟨λid aZ h=>?_⟩;obtain⟨k,f,g⟩:=b.sub _ _ h;obtain⟨e,i,j⟩:=a.sub _ _ f;refine⟨e,i,?_⟩;rcases g with rfl|rfl<;>rcases j with rfl|rfl
 .exact .inl rfl
 .exact .inr rfl
 .exact .inr rfl
 .exact .inr e.Dq
def sQ(H:Heap)(i k:Nat):ag (mM H i) k=if i=k then(ag H k).map bq.freeze else ag H k:=by
 induction H with
 |nil=>simp[mM,ag]
 |cons x r b=>
  obtain⟨j,v⟩:=x;by_cases h:j=i
  .subst h;simp only[mM,beq_self_eq_true,cQ,aw];split<;>simp
  .have c:(j==i)=false:=by simpa using h
   simp only[mM,c,Bool.false_eq_true,cK,aw,b];by_cases a:j=k
   .subst a;have:¬i=j:=λe=>h e.symm
    simp[this]
   .simp[a]
def lx(c:List Nat):∀H:Heap,ig H (dp H c):=by
 induction c with
 |nil=>exact ig.refl
 |cons i r d=>
  intro H;simp only[dp];refine ig.trans ?_ (d _);refine⟨λid aZ a=>?_⟩;rw[sQ]at a;split at a
  .cases h:ag H id with
   |none=>rw[h]at a;cases a
   |some b=>rw[h]at a;simp at a;exact⟨b,rfl,.inr a.symm⟩
  .exact⟨aZ,a,.inl rfl⟩
def Wg(a:List Nat):∀(H:Heap) (id:Nat) (aZ:bq),id∈a->ag (dp H a) id=some aZ->aZ.fz=true:=by
 induction a with
 |nil=>intro H id aZ h;simp at h
 |cons i r g=>
  intro H id aZ h c;simp only[dp]at c;by_cases d:id∈r
  .exact g _ _ _ d c
  .have e:id=i:=by simpa[d]using h
   subst e;obtain⟨l,b,j⟩:=(lx r _).sub _ _ c;rw[sQ,aq rfl]at b;cases f:ag H id with
   |none=>rw[f]at b;cases b
   |some k=>
    rw[f]at b;simp only[Option.map_some,ay]at b;subst b;rcases j with rfl|rfl<;>cases k<;>rfl
def I7(l:List Nat)(H:Heap):ig H (da H l):=⟨λid aZ h=>⟨aZ,gX l H id aZ h,.inl rfl⟩⟩
end
section
open Go.RowKit
def bR{w:World}{b o:Nat}{a:Array Value}{T:TypeId}{c:Nat×Nat}{v:Value}(d:w.heap[b]?=some (.cells a T c))(e:a[o]?=some v):
 w.cell? ⟨b,o,none⟩=some v:=by simp[World.cell?,d,e]
def fX{w:World}{b o:Nat}{a:Array Value}{T:TypeId}(c:w.heap[b]?=some (.cells a T (0,0))):w.frozen? ⟨b,o,none⟩=false:=by
 simp[World.frozen?,c]
def iv(b o n:Nat):Addr.add ⟨b,o,none⟩ n=⟨b,o+n,none⟩:=by
 unfold Addr.add;split
 .subst_vars;rfl
 .rfl
def run_loadCellsFrom{P:Program}{w:World}{b:Nat}{c:Array Value}{T:TypeId}{g:Nat×Nat}(j:w.heap[b]?=some (.cells c T g))(a:Nat):
  ∀(n i:Nat) (d:Array Value),a+i+n<=c.size->(loadCellsFrom ⟨b,a,none⟩ i n d).run P w=.ok (d++c.extract (a+i) (a+i+n)) w:=by
 intro n;induction n with
 |zero=>intro i d h;simp[loadCellsFrom];omega
 |succ n k=>
  intro i d h;have f:a+i<c.size:=ae;have l:w.cell? (Addr.add ⟨b,a,none⟩ i)=some c[a+i]:=by
   rw[iv];exact bR j (by simp[f])
  simp only[loadCellsFrom,Sem.run_bind,run_load,l,Result.andThen_ok];rw[k (i+1) _ ae];congr 1;apply Array.ext';simp only[Array.toList_append,wm,Array.toList_extract,List.append_assoc,List.extract_eq_take_drop];congr 1;rw[show a+i+(n+1)-(a+i)=n+1 from ae,show a+(i+1)+n-(a+(i+1))=n from ae];have e:a+(i+1)=a+i+1:=ae;rw[e,List.drop_eq_getElem_cons (i:=a+i) (by simpa using f)];simp
def run_loadCells{P:Program}{w:World}{b a n:Nat}{c:Array Value}{T:TypeId}{d:Nat×Nat}(e:w.heap[b]?=some (.cells c T d))(h:a+n<=c.size):
  (loadCells ⟨b,a,none⟩ n).run P w=.ok (c.extract a (a+n)) w:=by
 rw[loadCells,run_loadCellsFrom e a n 0 #[] ae];simp
def cA(w:World)(b:Nat)(a:Array Value)(T:TypeId)(c:Nat×Nat):World:={w with heap:=w.heap.setIfInBounds b (.cells a T c)}
def cI(a:Array Value)(o:Nat):List Value->Array Value
 |[]=>a
 |v::r=>cI (a.setIfInBounds o v) (o+1) r
def bX(l:List Value):∀(a:Array Value) (o:Nat),(cI a o l).size=a.size:=by
 induction l with
 |nil=>intro a o;rfl
 |cons v r b=>intro a o;simp[cI,b]
def fF(l:List Value):∀(a:Array Value) (o k:Nat),o+l.length<=a.size->
  (cI a o l)[k]?=if o<=k/\k<o+l.length then l[k-o]? else a[k]?:=by
 induction l with
 |nil=>
  intro a o k h;have:¬(o<=k/\k<o+([]:List Value).length):=az;rw[ak this];rfl
 |cons v r c=>
  intro a o k h;simp only[List.length_cons]at h⊢;simp only[cI];rw[c _ _ _ (by simp;omega)];by_cases b:o+1<=k/\k<o+1+r.length
  .rw[aq b,aq ⟨ae,ae⟩];obtain⟨j,rfl⟩:∃j,k=o+1+j:=⟨k-(o+1),ae⟩;rw[show o+1+j-(o+1)=j from ae,show o+1+j-o=j+1 from ae];simp
  .rw[ak b];by_cases d:k=o
   .subst d;have e:k<a.size:=ae;rw[aq ⟨ae,ae⟩];simp[e]
   .rw[ak ae];rw[lq ae]
def dO(w:World)(b:Nat)(a:Array Value)(T:TypeId)(c:Nat×Nat)(k:Nat):
  (cA w b a T c).heap[k]?=if b=k/\b<w.heap.size then some (.cells a T c)else w.heap[k]?:=by
 simp only[cA];by_cases h:b=k
 .subst h;by_cases d:b<w.heap.size
  .simp[d]
  .simp[d]
 .rw[lq h,ak (λe=>h e.1)]
def G7{w:World}{b:Nat}{a:Array Value}{T:TypeId}{c:Nat×Nat}(e:w.heap[b]?=some (.cells a T c)):cA w b a T c=w:=by
 have d:=aO e;have:w.heap.setIfInBounds b (.cells a T c)=w.heap:=by
  apply Cm;intro i;by_cases h:b=i
  .subst h;rw[e];simp[d]
  .rw[lq h]
 simp only[cA,this]
def ma{w:World}{b:Nat}{a:Array Value}{T:TypeId}{d:Nat×Nat}(e:w.heap[b]?=some (.cells a T d))(o:Nat)(v:Value):
  w.setCell ⟨b,o,none⟩ v=cA w b (a.setIfInBounds o v) T d:=by
 have c:=aO e;simp only[World.setCell,cA];congr 1;apply Cm;intro i;rw[H0];by_cases h:b=i
 .subst h;rw[e];simp[c]
 .simp[h]
def np(w:World)(b:Nat)(d a:Array Value)(T e:TypeId)(f c:Nat×Nat):cA (cA w b d T f) b a e c=cA w b a e c:=by
 simp[cA]
def kl{P:Program}{b off:Nat}{T:TypeId}(d:List Value):∀(i:Nat) (w:World) (a:Array Value),w.heap[b]?=some (.cells a T (0,0))->
  (∀v∈d,v.oneCell'=true)->off+i+d.length<=a.size->
  (storeCells ⟨b,off,none⟩ d i).run P w=.ok () (cA w b (cI a (off+i) d) T (0,0)):=by
 induction d with
 |nil=>intro i w a c _ _;simp only[storeCells,Sem.run_pure,cI];rw[G7 c]
 |cons v r h=>
  intro i w a c g j;simp only[List.length_cons]at j;have f:off+i<a.size:=ae;have k:w.cell? (Addr.add ⟨b,off,none⟩ i)=some a[off+i]:=by rw[iv];exact bR c (by simp[f])
  have l:w.frozen? (Addr.add ⟨b,off,none⟩ i)=false:=by rw[iv];exact fX c
  simp only[storeCells,Sem.run_bind,run_store P w _ v _ (g v az),k,l,Bool.false_eq_true,cK,Result.andThen_ok];rw[iv,ma c];have e:=aO c;rw[h (i+1) _ (a.setIfInBounds (off+i) v) (by rw[dO,aq ⟨rfl,e⟩]) (λx m=>g x (by simp[m])) (by simp;omega)];rw[np];rfl
def BY{a:Array Value}{T:TypeId}{b:Nat×Nat}:¬s8 (.cells a T b):=by
 rintro(⟨_,_,_,_,e⟩|⟨_,_,e⟩)<;>cases e
def Fa{a:Array MapEntry}{c:Nat}:¬s8 (.map a c):=by
 rintro(⟨_,_,_,_,e⟩|⟨_,_,e⟩)<;>cases e
def oB{w:World}{B b:Nat}{c a:Array Value}{T T0:TypeId}{f d:Nat×Nat}(h:B<=b)(g:w.heap[b]?=some (.cells a T0 d)):Below B w (cA w b c T f):=by
 refine⟨⟨rfl,rfl,rfl,by simp[cA],λk j=>?_⟩,Nat.le_refl _,λk o i e=>?_⟩
 .rw[dO,ak (λe=>ae)]
 .rw[dO,ak ?_]
  .exact e
  .rintro⟨rfl,_⟩;rw[g]at e;cases e;exact BY i
def iF{w:World}{B:Nat}(h:B<=w.heap.size)(o:Obj):Below B w (w.alloc o):=(Below.refl B w).alloc h o
def heap_alloc(w:World)(o:Obj)(k:Nat):(w.alloc o).heap[k]?=if k=w.heap.size then some o else w.heap[k]?:=by
 simp only[World.alloc];rw[H8]
def eK(B:Nat)(w:World):Below B w w.drew:=(Below.refl B w).drew
end
end Go.Dv
