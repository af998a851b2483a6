/- Lemmas for the law of this claim. -/
import Derived.Test.YtcphhjkcgikdgaaGreatDoorP02
import Derived.Laws.Entries
import Derived.Laws.Slices
import Derived.Laws.StructEq
set_option linter.all false
namespace Go.Dv
section
open Go.RowKit
def nz{w:World}{B:Nat}{k:World}{g:Nat->Prop}{f:Place}{H:Heap}{l:Nat}(m:Mem B k g f H l w){a:List Nat}{id b c:Nat}{aZ:bq}
  (h:ag H id=some aZ)(n:f id=some (b,c))(o:id∈a)(t:B<=b):¬Own g f (dp H a) b:=by
 rintro(p|⟨q,d,u,i,j,r⟩)
 .have:=m.u0 b p;omega
 .obtain⟨v,s,_⟩:=(lx a H).sub _ _ i;have e:=m.h.inj _ _ _ _ _ _ _ h s n r;subst e;rw[Wg a H id d o i]at j;cases j
def gK{g d:Type}{f:g->Option d}{l:List g}{r:List d}(h:bP f l=some r){j:Nat}{y:d}(i:r[j]?=some y):∃a,l[j]?=some a/\f a=some y:=by
 obtain⟨o,m⟩:=fj h;have p:j<r.length:=by
  rcases bS j r.length with e|e
  .exact e
  .simp[List.getElem?_eq_none e]at i
 have c:j<l.length:=ae;obtain⟨b,k,n⟩:=m j l[j] (by simp[c]);rw[i]at k;cases k;exact⟨l[j],by simp[c],n⟩
def ra{B:Nat}{w0:World}{U0:Nat->Prop}{Y:Place}{H:Heap}{nx:Nat}{w:World}(m:Mem B w0 U0 Y H nx w)(M:List Nat):
  ∀(n:Nat) (v:DV) (p:PV) (x:Value),aS H n v=some p->(∀i∈fg H n v,i∈M)->bg w (Own U0 Y H) Y H nx v x->bN w (Own U0 Y (dp H M)) p x:=by
 have hk:=(lx M H).keeps (U0:=U0) (β:=Y) w;intro n;induction n with
 |zero=>intro v p x h;simp[aS]at h
 |succ n ih=>
  intro v p x h P V;cases V with
  |p v x hp=>simp only[aS,ay]at h;subst h;exact hp.lI hk
  |agg K L hl C hr=>
   simp only[aS]at h;cases z:bP (aS H n) K with
   |none=>rw[z]at h;cases h
   |some l=>
    rw[z]at h;simp only[ay]at h;subst h;have t:=(fj z).1;refine .agg l L ae (λj y o=>?_) (λj y o=>?_)
    .obtain⟨a,A,_⟩:=gK z o;exact C j a A
    .obtain⟨a,A,D⟩:=gK z o;exact ih a y _ D (λi N=>P i (by simp only[fg,List.mem_flatMap];exact⟨a,List.mem_of_getElem? A,N⟩)) (hr j a A)
  |tuple K L hl hr=>
   simp only[aS]at h;cases z:bP (aS H n) K with
   |none=>rw[z]at h;cases h
   |some l=>
    rw[z]at h;simp only[ay]at h;subst h;have t:=(fj z).1;refine .tuple l L ae (λj y o=>?_);obtain⟨a,A,D⟩:=gK z o;exact ih a y _ D (λi N=>P i (by simp only[fg,List.mem_flatMap];exact⟨a,List.mem_of_getElem? A,N⟩)) (hr j a A)
  |func f K L hl hr=>
   simp only[aS]at h;cases z:bP (aS H n) K with
   |none=>rw[z]at h;cases h
   |some l=>
    rw[z]at h;simp only[ay]at h;subst h;have t:=(fj z).1;refine .func f l L ae (λj y o=>?_);obtain⟨a,A,D⟩:=gK z o;exact ih a y _ D (λi N=>P i (by simp only[fg,List.mem_flatMap];exact⟨a,List.mem_of_getElem? A,N⟩)) (hr j a A)
  |kK f K L hl hr=>simp[aS]at h
  |ref id xm g k v hid hc F Z=>
   simp only[aS]at h;cases s:ag H id with
   |none=>rw[s]at h;cases h
   |some aZ=>
    cases aZ with
    |var f K|map _ _=>rw[s]at h;cases h
    |aV f Q I=>
     rw[s]at h;simp only at h;split at h
     case isFalse=>cases h
     rename_i x0;obtain⟨hv,J⟩:=x0;cases z:bP (λx=>bP (aS H n) x) ((I.drop g).take k)with
     |none=>rw[z]at h;cases h
     |some l=>
     rw[z]at h;simp only[ay]at h;subst h;have t:l.length=k:=by rw[(fj z).1];simp;omega
     rcases(Z _ _ _ s).2 hv J with⟨rfl,_,a,rfl⟩|⟨b,x1,a,G,rfl,A⟩
     .simp at J;obtain⟨rfl,rfl⟩:=J;have:l=[]:=List.eq_nil_of_length_eq_zero t;subst this;exact .none false a 0 az
     .by_cases x2:k=0
      .subst x2;have:l=[]:=List.eq_nil_of_length_eq_zero t;subst this;exact .none false a _ az
      .obtain rfl:=A (.inl ae);rcases m.h.aZ id _ s with⟨r,W⟩|⟨b',X,E,T,C,R,S,h4,h5,h6,L,h7,h8,h9⟩
       .rw[G]at W;cases W
       .rw[G]at C;simp only[ay,bY]at C;obtain⟨rfl,rfl⟩:=C;have u:∀i y,l[i]?=some y->∃x,I[g+i]?=some x/\bP (aS H n) x=some y/\x∈(I.drop g).take k:=by
         intro i y o;obtain⟨x,r,D⟩:=gK z o;have O:=List.mem_of_getElem? r;rw[List.getElem?_take]at r;split at r
         .rw[List.getElem?_drop]at r;exact⟨x,r,D,O⟩
         .cases r
        have:=bN.slice (w:=w) (U:=Own U0 Y (dp H M)) false l b (g*Q) (x1-g) Q E T (0,0) (λi j=>L (g+i) j)
         ae ae az S (nz m s G (P id (by simp[fg])) R)
         (λy o=>by
          obtain⟨i,N⟩:=List.getElem?_of_mem o;obtain⟨x,r,D,_⟩:=u i y N;rw[(fj D).1];exact h6 x (List.mem_of_getElem? r))
         (λi y j q o hq=>by
          obtain⟨x,r,D,_⟩:=u i y o;obtain⟨d,V,_⟩:=gK D hq;have:=h7 (g+i) x j d r V;rw[<-this];congr 1;rw[dB])
         (λi y j q o hq=>by
          obtain⟨x,r,D,_⟩:=u i y o;obtain⟨d,V,_⟩:=gK D hq;exact h8 _ x j d r V)
         (λi y j q o hq=>by
          obtain⟨x,r,D,O⟩:=u i y o;obtain⟨d,V,hp⟩:=gK D hq;refine ih d q _ hp (λe he=>P e ?_) (h9 _ x j d r V);simp only[fg,s,List.mem_cons,List.mem_flatMap];right;exact⟨x,O,d,List.mem_of_getElem? V,he⟩)
        rw[t]at this;exact this
    |row f Q I=>
     rw[s]at h;simp only at h;split at h
     .rename_i x0;obtain⟨hv,J⟩:=x0;simp only[ay]at h;subst h;have t:((I.drop g).take k).length=k:=by simp;omega
      rcases(F _ _ _ s).2 hv J with⟨rfl,_,a,rfl⟩|⟨b,x1,a,G,rfl,A⟩
      .simp at J;obtain⟨rfl,rfl⟩:=J;exact .none false a 0 az
      .by_cases x2:k=0
       .subst x2;simp only[List.take_zero];exact .none false a _ az
       .obtain rfl:=A (.inl ae);rcases m.h.aZ id _ s with⟨r,W⟩|⟨b',X,E,T,C,R,S,h4,h5,h6,L,h7,h8,h9⟩
        .rw[G]at W;cases W
        .rw[G]at C;simp only[ay,bY]at C;obtain⟨rfl,rfl⟩:=C;have u:∀i x,((I.drop g).take k)[i]?=some x->I[g+i]?=some x:=by
          intro i x r;rw[List.getElem?_take]at r;split at r
          .rwa [List.getElem?_drop]at r
          .cases r
         have:=bN.slice (w:=w) (U:=Own U0 Y (dp H M)) false ((I.drop g).take k) b (g*Q) (x1-g) Q E T (0,0) (λi j=>L (g+i) j)
          ae ae az S (nz m s G (P id (by simp[fg])) R) (λx r=>h6 x (List.mem_of_mem_drop (List.mem_of_mem_take r)))
          (λi x j y r o=>by
           have:=h7 (g+i) x j y (u i x r) o;rw[<-this];congr 1;rw[dB])
          (λi x j y r o=>h8 _ x j y (u i x r) o)
          (λi x j y r o=>(h9 _ x j y (u i x r) o).lI hk)
         rw[t]at this;exact this
     .cases h
  |ptr id g v hid hc F xg=>
   simp only[aS]at h;cases s:ag H id with
   |none=>rw[s]at h;cases h
   |some aZ=>
    cases aZ with
    |row f Q I|aV f Q I=>rw[s]at h;cases h
    |map fz c=>
     cases c with
     |ints kv=>rw[s]at h;cases h
     |strs k f=>
     rw[s]at h;simp only[ay]at h;subst h;obtain⟨b,c,G,rfl⟩:=xg _ _ s;obtain⟨b',c',es,x3,C,R,S,h4⟩:=m.h.aZ id _ s;rw[G]at C;simp only[ay,bY]at C;obtain⟨rfl,rfl⟩:=C;exact .map k f b es x3 S (nz m s G (P id (by simp[fg])) R) h4
    |var f K=>
     rw[s]at h;simp only at h;cases z:bP (aS H n) (K.drop g)with
     |none=>rw[z]at h;cases h
     |some l=>
      rw[z]at h;simp only[ay]at h;subst h;obtain⟨b,c,G,rfl⟩:=F _ _ s;obtain⟨b',c',E,T,C,R,S,h4,h5,h6⟩:=m.h.aZ id _ s;rw[G]at C;simp only[ay,bY]at C;obtain⟨rfl,rfl⟩:=C;have x4:∀j y,l[j]?=some y->∃a,K[g+j]?=some a/\aS H n a=some y:=by
       intro j y o;obtain⟨a,A,D⟩:=gK z o;rw[List.getElem?_drop]at A;exact⟨a,A,D⟩
      refine .dT l b g E T (0,0) (λj=>E.getD (g+j) undef) S (nz m s G (P id (by simp[fg])) R) (λj y o=>?_) (λj y o=>?_) (λj y o=>?_)
      .obtain⟨a,A,_⟩:=x4 j y o;have xn:g+j<E.size:=by
        rw[h4];rcases bS (g+j) K.length with h'|h'
        .exact h'
        .simp[List.getElem?_eq_none h']at A
       simp[xn]
      .obtain⟨a,A,_⟩:=x4 j y o;exact h5 _ a A
      .obtain⟨a,A,D⟩:=x4 j y o;refine ih a y _ D (λi N=>P i ?_) (h6 _ a A);simp only[fg,s,List.mem_cons,List.mem_flatMap];right;exact⟨a,List.mem_of_getElem? (i:=j) (by rw[List.getElem?_drop];exact A),N⟩
  |dA id xm i g v hid hc F _=>
   simp only[aS]at h;cases s:ag H id with
   |none=>rw[s]at h;cases h
   |some aZ=>
    cases aZ with
    |var f K|aV f Q I|map _ _=>rw[s]at h;cases h
    |row f Q I=>
     rw[s]at h;simp only at h;split at h
     .rename_i hv;cases r:I[i]? with
      |none=>rw[r]at h;cases h
      |some x=>
       rw[r]at h;simp only[ay]at h;subst h;have N:i<I.length:=by
        rcases bS i I.length with h'|h'
        .exact h'
        .simp[List.getElem?_eq_none h']at r
       obtain⟨b,c,G,rfl⟩:=(F _ _ _ s).2 hv N;rcases m.h.aZ id _ s with⟨xv,W⟩|⟨b',X,E,T,C,R,S,h4,h5,h6,L,h7,h8,h9⟩
       .rw[G]at W;cases W
       .rw[G]at C;simp only[ay,bY]at C;obtain⟨rfl,rfl⟩:=C;refine .dT (x.drop g) b (i*Q+g) E T (0,0) (λj=>L i (g+j)) S (nz m s G (P id (by simp[fg])) R) (λj y o=>?_) (λj y o=>?_) (λj y o=>?_);all_goals rw[List.getElem?_drop]at o
        .have:=h7 i x (g+j) y r o;rw[<-Nat.add_assoc]at this;exact this
        .exact h8 i x _ y r o
        .exact(h9 i x _ y r o).lI hk
     .cases h
end
def oo:Value->PV->Bool
 | .int k n,.int a c=>decide (k=a)&&n==c
 | .bool b,.bool d=>b==d
 | .string s,.str e=>s.data.toList==e.data.toList
 | .slice none 0 0,.slice true []=>true
 | .map none,.undef=>true
 | .nilFunc,.undef=>true
 | .pointer none,.undef=>true
 |_,_=>false
def iM:List Value->List PV->Bool
 |[],[]=>true
 |v::r,p::q=>oo v p&&iM r q
 |_,_=>false
def nV:List Value->List DV->Bool
 |[],[]=>true
 |v::r,.p p::q=>oo v p&&nV r q
 |_,_=>false
def Ey:Value->DV->Bool
 | .agg a,.agg b=>nV a.toList b
 |v,.p p=>oo v p
 |_,_=>false
def bK:Operand->DO->Bool
 | .tmp t,.t k=>t==k
 | .const v,.c d=>Ey v d
 | .func f,.c (.func g [])=>f==g
 |_,_=>false
def kQ:List Operand->List DO->Bool
 |[],[]=>true
 |x::r,d::q=>bK x d&&kQ r q
 |_,_=>false
def nI:Option Operand->Option DO->Bool
 |none,none=>true
 |some x,some d=>bK x d
 |_,_=>false
def mf(P:Program)(t:TypeId)(a:List PV):Bool:=
 match P.info? t with
 |some i=>match i.zero with
  |some z=>iM z.cells.toList a&&i.size==a.length
  |none=>false
 |none=>false
def dJ(P:Program)(t:TypeId)(n:Nat):Bool:=
 match P.info? t with
 |some i=>i.size==n
 |none=>false
def jd(P:Program)(t:TypeId):Option Bool:=
 match P.underlying t with
 |some (.struct _)|some (.array _ _)=>some true
 |some _=>some false
 |none=>none
def Al(P:Program)(t:TypeId):Option Nat->Bool
 |none=>match jd P t with|some false=>true|_=>false
 |some n=>(match jd P t with|some true=>true|_=>false)&&dJ P t n&&decide (0<n)
def qd(P:Program)(b:Array Field):List (Nat×Operand)->List (Nat×Nat×DO)->Bool
 |[],[]=>true
 |(i,x)::r,(a,n,d)::q=>(match b[i]? with|some f=>f.offset==a&&dJ P f.type n|none=>false)&&bK x d&&qd P b r q
 |_,_=>false
def n9(a:Nat):List (Nat×Operand)->List (Nat×Nat×DO)->Bool
 |[],[]=>true
 |(i,x)::r,(b,n,d)::q=>b==i*a&&n==a&&bK x d&&n9 a r q
 |_,_=>false
def Fz:List (Nat×Operand)->List (Nat×DO)->Bool
 |[],[]=>true
 |(i,x)::r,(j,d)::q=>i==j&&bK x d&&Fz r q
 |_,_=>false
def tY(P:Program)(a:Array Field):Bool:=a.toList.all λf=>(P.info? f.type).isSome
def rQ(P:Program)(t:TypeId):Option Nat:=
 match P.underlying t with
 |some (.int _)=>some 0
 |some .bool=>some 1
 |some .string=>some 2
 |_=>none
def mN(P:Program)(d:Nat->Nat->List Field->Option (List (Nat×Nat)))(c e:Nat):List Field->Option (List (Nat×Nat))
 |[]=>some []
 |f::r=>if f.name != "_" then match rQ P f.type with
   |some k=>if f.offset<e then match mN P d c e r with
     |some l=>some ((c+f.offset,k)::l)
     |none=>none
    else none
   |none=>match P.underlying f.type,P.info? f.type with
    |some (.struct g),some i=>if !P.stoodInHeld f.type&&decide (f.offset+i.size<=e)then match d (c+f.offset) i.size g.toList,mN P d c e r with
      |some a,some b=>some (a++b)
      |_,_=>none
     else none
    |_,_=>none
  else none
def vD(P:Program):Nat->Nat->Nat->List Field->Option (List (Nat×Nat))
 |0,_,_,_=>none
 |n+1,a,b,c=>mN P (vD P n) a b c
def qJ(P:Program)(t:TypeId)(a:List Field)(jr:List (Nat×Nat)):Bool:=match P.info? t with
 |some i=>vD P 4 0 i.size a==some jr
 |none=>false
def bZ(P:Program)(t:TypeId):Option TypeId:=
 match P.underlying t with
 |some (.slice e)=>some e
 |_=>none
def yS(P:Program)(t:TypeId):Bool:=match P.underlying t with|some .bool=>true|_=>false
def pg(P:Program)(t:TypeId):Bool:=match P.underlying t with|some .string=>true|_=>false
def jX(P:Program)(t b:TypeId)(bytes a:Nat):Bool:=
 match bZ P t,bZ P b with
 |some e,some _=>match P.info? e with
  |some i=>i.bytes==bytes&&i.size==a&&(match i.zero with|some z=>z.cells.size==a|none=>false)&&decide (0<a)&&decide (0<bytes)
  |none=>false
 |_,_=>false
def Cc(P:Program)(t:TypeId)(a:List PV)(bytes:Nat):Bool:=
 match bZ P t with
 |some e=>match P.info? e with
  |some i=>i.bytes==bytes&&mf P e a&&decide (0<a.length)
  |none=>false
 |none=>false
def Ce(P:Program)(t:TypeId)(a:Nat):Bool:=
 match bZ P t with
 |some e=>dJ P e a&&decide (0<a)
 |none=>false
def yN(P:Program)(t:TypeId)(a:List PV):Bool:=
 match bZ P t with
 |some e=>mf P e a&&decide (0<a.length)
 |none=>false
def yH(b:BinOp)(a:Bool):Bool:=match b with| .eql=>!a| .neq=>a|_=>false
def isBuiltin(c:Call)(b:Builtin):Bool:=match c.callee with| .builtin a=>decide (a=b)|_=>false
def uY(P:Program)(t:TypeId):Bool:=match P.underlying t with
 |some (.map a _)=>pg P a
 |_=>false
def su(P:Program)(c:Call):dX->Bool
 | .append bytes e g b=>isBuiltin c .append&&(match c.args.toList,c.argTypes.toList with
  |[s,x],[t,j]=>bK s g&&bK x b&&jX P t j bytes e
  |_,_=>false)
 | .ni bytes e g b=>isBuiltin c .append&&(match c.args.toList,c.argTypes.toList with
  |[s,x],[t,j]=>bK s g&&bK x b&&jX P t j bytes e
  |_,_=>false)
 | .jT k a=>(match c.callee with| .value (.func f)=>f==k|_=>false)&&kQ c.args.toList a
 | .copy e g b=>isBuiltin c .copy&&(match c.args.toList,c.argTypes.toList with
  |[s,x],[t,_]=>bK s g&&bK x b&&Ce P t e
  |_,_=>false)
 | .len b=>isBuiltin c .len&&(match c.args.toList,c.argTypes.toList with
  |[x],[t]=>bK x b&&(bZ P t).isSome
  |_,_=>false)
 | .lU b=>isBuiltin c .len&&(match c.args.toList,c.argTypes.toList with
  |[x],[t]=>bK x b&&pg P t
  |_,_=>false)
 | .clear h b=>isBuiltin c .clear&&(match c.args.toList,c.argTypes.toList with
  |[x],[t]=>bK x b&&yN P t h
  |_,_=>false)
 | .jM d b l=>isBuiltin c (if d then .max else .min)&&kQ c.args.toList (b::l)
 | .oR b n=>isBuiltin c .delete&&(match c.args.toList,c.argTypes.toList with
  |[x,i],[t,_]=>bK x b&&bK i n&&uY P t
  |_,_=>false)
 | .call _ k a=>(match c.callee with| .value (.func f)=>f==k|_=>false)&&kQ c.args.toList a
 | .eM _ m a=>(match c.callee with| .value o=>bK o m|_=>false)&&kQ c.args.toList a
 |_=>false
def vi(P:Program)(t:TypeId):Option TypeId:=
 match P.underlying t with
 |some (.map a b)=>match P.underlying a with
  |some .string=>some b
  |_=>none
 |_=>none
def Cb(P:Program)(t:TypeId):PV->Bool
 | .agg a=>match P.info? t with
  |some i=>match i.zero with
   |some (.agg z)=>iM z.toList a
   |_=>false
  |none=>false
 |p=>match P.info? t with
  |some i=>match i.zero with
   |some z=>oo z p
   |none=>false
  |none=>false
def oM(P:Program):Op->dX->Bool
 | .move x,.move d=>bK x d
 | .assign x,.move d=>bK x d
 | .pick c a b,.pick C D R=>bK c C&&bK a D&&bK b R
 | .alloc t,.alloc zero=>mf P t zero
 | .box _ x,.box d=>bK x d
 | .build t g,.build zero w=>mf P t zero&&(match P.underlying t with
  |some (.struct u)=>tY P u&&qd P u g.toList w
  |some (.array _ e)=>match P.info? e with
   |some i=>n9 i.size g.toList w
   |none=>false
  |_=>false)
 | .buildSlice t j g,.buildSlice zero z w=>(match bZ P t with
  |some e=>mf P e zero&&decide (0<zero.length)&&decide (j*zero.length<=2^24)&&j==z&&Fz g.toList w&&decide (w.length<=j)
  |none=>false)
 | .buildSlice t j g,.jv zero h=>j==1&&(match g.toList with|[(0,x)]=>bK x h|_=>false)&&(match bZ P t with
  |some e=>mf P e zero&&decide (0<zero.length)&&decide (zero.length<=2^24)
  |none=>false)
 | .load t a,.load n d=>bK a d&&Al P t n
 | .store t a x,.store n D h=>bK a D&&bK x h&&dJ P t n
 | .nilCheck x,.nilCheck d=>bK x d
 | .binOp p _ x y _,.bin q h A=>decide (p=q)&&bK x h&&bK y A
 | .binOp p t x y _,.isNil h=>decide (p=.eql)&&bK x h&&(match y with| .const (.slice none 0 0)=>true|_=>false)&&(bZ P t).isSome
 | .binOp p t x y _,.Im r h A=>yH p r&&bK x h&&bK y A&&yS P t
 | .binOp p t x y _,.ru r jr h A=>yH p r&&bK x h&&bK y A&&(match P.underlying t with
  |some (.struct u)=>qJ P t u.toList jr&&!P.stoodInHeld t&&!P.eqGuardType P.depth t
  |_=>false)
 | .unOp p _ x,.un q d=>decide (p=q)&&bK x d
 | .convert E F x,.conv k d=>bK x d&&(P.underlying E).isSome&&(match P.underlying F with|some (.int S)=>decide (k=S)|_=>false)
 | .slice t x T N O,.slice B h G H I=>bK x h&&nI T G&&nI N H&&nI O I&&(O.isNone||N.isSome)&&(match bZ P t with
  |some e=>dJ P e B
  |none=>false)
 | .fieldAddr t x f,.fieldAddr J d=>bK x d&&(match P.underlying t with
  |some (.struct u)=>match u[f]? with
   |some Q=>Q.offset==J&&(match P.info? Q.type with|some i=>decide (0<i.size)|none=>false)
   |none=>false
  |_=>false)
 | .indexAddr t x i,.indexAddr B h m=>bK x h&&bK i m&&(match bZ P t with
  |some e=>dJ P e B
  |none=>false)
 | .indexAddr t x i,.dh j B h m=>bK x h&&bK i m&&(match P.underlying t with
  |some (.array n e)=>n==j&&dJ P e B
  |_=>false)
 | .index t x i,.index h m=>bK x h&&bK i m&&pg P t
 | .extract x i,.extract h m=>bK x h&&i==m
 | .makeSlice t l c,.makeSlice zero bytes U C=>bK l U&&bK c C&&Cc P t zero bytes
 | .makeMap t none,.jW=>true
 | .lookup t x i V,.iu K zero h m=>V==K&&bK x h&&bK i m&&(match vi P t with
  |some e=>Cb P e zero
  |none=>false)
 | .mapUpdate t x i v,.jw h m W=>bK x h&&bK i m&&bK v W&&(vi P t).isSome
 | .makeFunc L first o,.pk M first'=>(match L with| .func f=>f==M|_=>false)&&o.toList.isEmpty&&kQ first.toList first'
 | .makeInterface t x,.ll X h=>t==X&&bK x h&&(match P.underlying t with|some (.struct _)=>true|_=>false)
 | .makeFunc L first o,.fT M s=>(match L with| .func f=>f==M|_=>false)&&first.toList.isEmpty&&kQ o.toList s
 | .call c,d=>su P c d
 |_,_=>false
def DO.rd:DO->List Nat
 | .t k=>[k]
 | .c _=>[]
def SZ:Option DO->List Nat
 |none=>[]
 |some x=>x.rd
def dX.rd:dX->List Nat
 | .move x| .box x| .load _ x| .nilCheck x| .un _ x| .conv _ x| .fieldAddr _ x| .extract x _| .len x| .lU x| .isNil x| .clear _ x| .jv _ x| .ll _ x=>x.rd
 | .pick c a b=>c.rd++a.rd++b.rd
 | .alloc _| .jW=>[]
 | .build _ e=>e.flatMap λp=>p.2.2.rd
 | .buildSlice _ _ e=>e.flatMap λp=>p.2.rd
 | .store _ a x| .bin _ a x| .Im _ a x| .ru _ _ a x| .indexAddr _ a x| .dh _ _ a x| .index a x| .makeSlice _ _ a x| .append _ _ a x| .ni _ _ a x| .copy _ a x| .iu _ _ a x| .oR a x=>a.rd++x.rd
 | .jw a x v=>a.rd++x.rd++v.rd
 | .slice _ x g h i=>x.rd++SZ g++SZ h++SZ i
 | .jM _ x d=>x.rd++d.flatMap DO.rd
 | .fT _ d| .pk _ d=>d.flatMap DO.rd
 | .call _ _ d| .jT _ d=>d.flatMap DO.rd
 | .eM _ f d=>f.rd++d.flatMap DO.rd
def aj.rd(o:aj):List Nat:=(match o.guard with|some (k,_)=>[k]|none=>[])++o.op.rd
def dX.cls:dX->Nat
 | .move _| .pick _ _ _| .build _ _| .bin _ _ _| .Im _ _ _| .ru _ _ _ _| .un _ _| .conv _ _| .index _ _| .extract _ _| .jM _ _ _| .fT _ _| .lU _| .isNil _| .pk _ _=>0
 | .load _ _| .slice _ _ _ _ _| .fieldAddr _ _| .indexAddr _ _ _| .dh _ _ _ _| .len _| .nilCheck _| .buildSlice _ _ _| .call false _ _| .eM false _ _| .iu _ _ _ _| .ll _ _=>1
 |_=>2
def apart(x y:aj):Bool:=
 (match x.dst with
  |some d=>!y.rd.contains d&&(match y.dst with|some e=>e !=d|none=>true)
  |none=>true)&&
 (match y.dst with
  |some e=>!x.rd.contains e
  |none=>true)
def dX.Hd:dX->Bool
 | .alloc _| .box _| .makeSlice _ _ _ _=>true
 |_=>false
def iE(x y:aj):Bool:=apart x y&&(x.op.cls==0||y.op.cls==0||(x.op.cls==1&&y.op.cls==1)||(x.op.cls==1&&y.op.Hd))
def rZ(a:Array Oper)(o:Oper)(d:aj):Bool:=
 match o.guard,d.guard with
 |none,none=>true
 |some (j,w),some (k,b)=>w==b&&(match(a[j]?).bind (·.dst)with|some c=>c==k|none=>false)
 |_,_=>false
structure Bd where
 n:Nat
 pq:List Nat
def Bd.free(b:Bd)(k:Nat):Bool:=decide (k<b.n)&&!b.pq.contains k
def CE(c:Bd)(o:Oper)(d:aj):Bool:=
 match o.dst,d.dst with
 |none,none=>true
 |some a,some b=>a==b&&c.free b
 |_,_=>false
def cm(P:Program)(b:Bd)(a:Array Oper):List Oper->List aj->Bool
 |[],[]=>true
 |o::r,d::q=>CE b o d&&rZ a o d&&oM P o.op d.op&&cm P b a r q
 |_,_=>false
def direct(o:Oper):List Nat:=(o.after.toList.filter (Region.binds .any)).map (·.on)
def nA(a:List aj):Nat->List Oper->List aj->Bool
 |_,[],[]=>true
 |i,o::r,d::q=>
  (direct o).all (λp=>d.dy.contains p)&&
  d.dy.all (λp=>decide (p<i)&&((direct o).contains p||(direct o).any λk=>match a[k]? with|some e=>e.dy.contains p|none=>false))&&
  (List.range i).all (λj=>d.dy.contains j||match a[j]? with|some e=>iE e d|none=>false)&&
  nA a (i+1) r q
 |_,_,_=>false
def jr(o x:aj):Bool:=match o.dst with
 |none=>true
 |some k=>!x.rd.contains k&&x.dst !=some k
def re(x:aj):Bool:=match x.dst with
 |none=>true
 |some k=>!x.rd.contains k
def yP(a:List aj)(j i:Nat):Bool:=match a[j]?,a[i]? with
 |some x,some y=>apart x y&&re x&&re y&&(List.range a.length).all λq=>match a[q]? with
  |some o=>(decide (q<=j)||jr o x)&&(decide (q<=i)||jr o y)
  |none=>true
 |_,_=>false
def mV(b:List (Nat×Nat))(a:List aj):Nat->List Oper->List aj->Bool
 |_,[],[]=>true
 |i,o::r,d::q=>
  (direct o).all (λp=>d.dy.contains p)&&
  d.dy.all (λp=>decide (p<i)&&((direct o).contains p||(direct o).any λk=>match a[k]? with|some e=>e.dy.contains p|none=>false))&&
  (List.range i).all (λj=>d.dy.contains j||(match a[j]? with|some e=>iE e d|none=>false)||(b.contains (j,i)&&yP a j i))&&
  mV b a (i+1) r q
 |_,_,_=>false
def mv(a:List Nat)(i:Nat):Nat:=a.getD i 0
def AJ(a:List aj)(j i:Nat):Bool:=match a[j]?,a[i]? with
 |some x,some y=>apart x y&&re x&&re y&&(List.range a.length).all λq=>match a[q]? with
  |some o=>(q==j||x.dy.contains q||jr o x)&&(q==i||y.dy.contains q||jr o y)
  |none=>true
 |_,_=>false
def rR(b:List (Nat×Nat))(c:List Nat)(a:List aj)(f:List Oper):Bool:=
 (List.range a.length).all λi=>match f[i]?,a[i]? with
  |some o,some d=>
   (direct o).all (λp=>d.dy.contains p)&&
   d.dy.all (λp=>decide (p<a.length)&&decide (mv c p<mv c i)&&((direct o).contains p||(direct o).any λk=>match a[k]? with|some e=>e.dy.contains p|none=>false))&&
   (List.range a.length).all (λj=>decide (mv c i<=mv c j)||d.dy.contains j||(match a[j]? with|some e=>iE e d|none=>false)||(b.contains (j,i)&&AJ a j i))
  |_,_=>false
def Db(a:List Nat):Nat->List Nat->List (List Nat)
 |0,_=>[[]]
 |n+1,l=>if l.isEmpty then[[]]else(l.filter λm=>l.all λx=>decide (mv a m<=mv a x)).flatMap λm=>(Db a n (l.erase m)).map (m::·)
def dX.tc:dX->Bool
 | .move _| .load _ _| .fieldAddr _ _| .nilCheck _| .indexAddr _ _ _| .extract _ _| .bin _ _ _| .len _| .lU _| .fT _ _=>true
 |_=>false
def dX.TT:dX->Bool
 | .call true _ _=>true
 |_=>false
def jO(a:List aj)(c:Nat):Nat->List Oper->List aj->Bool
 |_,[],[]=>true
 |i,o::r,d::q=>
  (direct o).all (λp=>d.dy.contains p)&&
  d.dy.all (λp=>decide (p<i)&&((direct o).contains p||(direct o).any λk=>match a[k]? with|some e=>e.dy.contains p|none=>false))&&
  (List.range i).all (λj=>d.dy.contains j||match a[j]? with|some e=>(decide (i<c)&&iE e d)||(decide (i=c)&&apart e d)||(decide (c<i)&&decide (j≠c)&&iE e d)|none=>false)&&
  jO a c (i+1) r q
 |_,_,_=>false
def vp(P:Program)(i:Bd)(str:Bool)(m:Nat)(hid:List Nat)(j k l:List Oper)(c:Nat):Bool:=
 match j,k,hid with
 |[⟨some k1,.move (.tmp n),_,_,_,none⟩,⟨some f,.range mt (.tmp o),_,_,_,none⟩],
  [⟨some g,.next (.tmp a3) d,_,_,_,none⟩,⟨some h,.extract (.tmp p) 0,_,_,_,none⟩],b::a::e=>
  str==d&&n==m&&o==k1&&a3==f&&p==g&&c==h&&b==f&&decide (b::a::e).Nodup&&(b::a::e).all i.free&&!(b::a::e).contains m&&
  (if str then pg P mt&&a==g&&e==[k1,h]
   else uY P mt&&e==[k1,g,h]&&match l with
    |⟨some q,.entry (.tmp a5),_,_,_,none⟩::_=>a5==f&&a==q
    |_=>false)
 |_,_,_=>false
def bl(P:Program)(g:Bd):Code->aG->Bool
 |c,.ghost _ a=>bl P g c a
 | .skip,.skip=>true
 | .region _ e f,.region j i _=>f==j&&cm P g e e.toList i&&(!f||nA i 0 e.toList i)
 | .seq a b,.seq A B=>bl P g a A&&bl P g b B
 | .cond c x y,.cond q C D=>bK c q&&bl P g x C&&bl P g y D
 | .block id c,.block p q=>id==p&&bl P g c q
 | .loop c,.loop q=>bl P g c q
 | .exit id,.exit p=>id==p
 | .ret,.ret=>true
 | .label _,.skip=>true
 | .region _ e f,.bE j r=>f==j&&cm P g e e.toList (r.map (·.1))&&(!f||nA (r.map (·.1)) 0 e.toList (r.map (·.1)))
 | .region _ e f,.jY n i _=>f&&cm P g e e.toList i&&mV n i 0 e.toList i
 | .region _ e f,.nu n w s i _ _=>f&&cm P g e e.toList i&&rR n w i e.toList&&(Db w i.length (List.range i.length)).all λl=>s.contains l
 | .region _ e f,.aX r=>!f&&cm P g e e.toList (r.map (·.1))
 | .region _ e f,.km pre h post _=>f&&cm P g e e.toList (pre++h::post)&&pre.all (λd=>d.op.tc&&d.guard.isNone&&d.dst.isSome&&(match h.dst with|some k=>!d.rd.contains k&&d.dst !=some k|none=>true))&&decide (pre.filterMap (·.dst)).Nodup&&h.op.TT&&h.guard.isNone&&jO (pre++h::post) pre.length 0 e.toList (pre++h::post)
 | .region _ e f,.panic i x=>!f&&cm P g e e.toList.dropLast i&&(match e.toList.getLast? with
   |some o=>o.guard.isNone&&(match o.op with| .panic y=>bK y x|_=>false)
   |none=>false)
 | .seq (.seq (.region _ E false) (.block v (.loop (.seq (.region _ F false) (.seq (.cond (.tmp c) .skip (.exit t)) (.block H (.seq (.region _ u false) G))))))) (.seq b d),.forIn str m hid i x y z=>
  v==t&&vp P g str m hid E.toList F.toList u.toList c&&cm P {g with pq:=hid.head?.toList++g.pq} u (if str then u.toList else u.toList.tail) i&&bl P {g with pq:=hid.head?.toList++g.pq} G x&&bl P g b y&&bl P g d z
 |_,_=>false
def fC(P:Program):List ResultVar->List gB->Bool
 |[],[]=>true
 | .tmp t::r,.tmp a::q=>t==a&&fC P r q
 | .cell t b::r,.cell a n::q=>t==a&&(match jd P b with|some true=>true|_=>false)&&dJ P b n&&decide (0<n)&&fC P r q
 |_,_=>false
def jG(P:Program)(f:FuncId)(a:av):Bool:=
 match P.funcs[f]? with
 |some fn=>match fn.body with
  |some c=>fn.name != "runtime.NumGoroutine" &&fn.ntmps==a.ntmps&&decide (a.nparams<=a.ntmps)&&fC P fn.results.toList a.results&&bl P ⟨a.ntmps,[]⟩ c a.body
  |none=>false
 |none=>false
section
open Go.RowKit
structure Cx where
 n:Nat
 ws:World
 βs:Place
 Hs:Heap
 ns:Nat
 pq:List Nat
 val:Nat->Value
def Cx.bd(nt:Cx):Bd:=⟨nt.n,nt.pq⟩
def l7{nt:Cx}{k:Nat}(h:nt.bd.free k=true):k<nt.n:=by
 simp only[Bd.free,Cx.bd,aL]at h;exact MN h.1
def AA{nt:Cx}{k:Nat}(h:nt.bd.free k=true):k∉nt.pq:=by
 simp only[Bd.free,Cx.bd,aL,kD]at h;intro b;have:=List.contains_iff_mem.2 b;rw[h.2]at this;cases this
structure bJ(B:Nat)(w0:World)(U0:Nat->Prop)(nt:Cx)(β:Place)(s:St)(a:Act)(w:World):Prop where
 mem:Mem B w0 U0 β s.heap s.next w
 env:∀k d,ag s.env k=some d->∃v,a.tmps[k]?=some v/\bg w (Own U0 β s.heap) β s.heap s.next d v
 size:a.tmps.size=nt.n
 defers:a.defers=[]/\∀k∈nt.pq,a.tmps[k]?=some (nt.val k)
 keeps:eJ nt.ws (Own U0 nt.βs nt.Hs) w (Own U0 β s.heap)
 cw:mn nt.βs nt.Hs nt.ns β s.heap s.next
 marks:∀c∈s.marks,nt.ns<=c
def Good(B:Nat)(w0:World)(U0:Nat->Prop)(H:Heap)(nx:Nat)(β:Place)(w:World)(v:DV)(d:Heap)(c:Nat)(x:Value)(e:World):Prop:=
 ∃b,Mem B w0 U0 b d c e/\eJ w (Own U0 β H) e (Own U0 b d)/\mn β H nx b d c/\bg e (Own U0 b d) b d c v x
def mn.trans{β p d:Place}{H C q:Heap}{n D r:Nat}(c:mn β H n p C D)(t:mn p C D d q r):mn β H n d q r:=
 ⟨ep c.next t.next,λk b f u y h=>by
   obtain⟨g,i,j,v,a3⟩:=t.row k (rm b c.next) f u y h;obtain⟨l,m,o,x,z⟩:=c.row k b g u i j;exact⟨l,m,o,ae,λe=>by rw[a3 ae,z ae]⟩,
  λk b f A h=>by
   obtain⟨g,i,j,v⟩:=t.var k (rm b c.next) f A h;obtain⟨l,m,o,x⟩:=c.var k b g i j;exact⟨l,m,o,by rw[v,x]⟩,
  λk b f A h=>by
   obtain⟨g,i,j,v⟩:=t.map k (rm b c.next) f A h;obtain⟨l,m,o,x⟩:=c.map k b g i j;exact⟨l,m,o,by rw[v,x]⟩,
  λk b f u y h=>by
   obtain⟨g,i,j,v,a3⟩:=t.aV k (rm b c.next) f u y h;obtain⟨l,m,o,x,z⟩:=c.aV k b g u i j;exact⟨l,m,o,ae,λe=>by rw[a3 ae,z ae]⟩⟩
def eJ.refl(w:World)(U:Nat->Prop):eJ w U w U:=⟨λ_ _ _ _ h=>h,λ_ _ _ h _=>h⟩
def eJ.trans{w g d:World}{U i e:Nat->Prop}(a:eJ w U g i)(b:eJ g i d e):eJ w U d e:=
 ⟨λk o c f h=>b.block k o c (a.out k o c f h) (a.block k o c f h),λk o c f h=>b.out k o c (a.out k o c f h) (a.block k o c f h)⟩
def bm{B:Nat}{w0:World}{U0:Nat->Prop}{H:Heap}{nx:Nat}{β:Place}{w:World}{v:DV}{x:Value}(m:Mem B w0 U0 β H nx w)
 (h:bg w (Own U0 β H) β H nx v x):Good B w0 U0 H nx β w v H nx x w:=⟨β,m,eJ.refl _ _,mn.refl _ _ _,h⟩
def nZ{B:Nat}{w0:World}{U0:Nat->Prop}{H b:Heap}{nx:Nat}{β:Place}{w:World}{v:DV}{x:Value}(m:Mem B w0 U0 β H nx w)(l:ig H b)
 (h:bg w (Own U0 β b) β b nx v x):Good B w0 U0 H nx β w v b nx x w:=⟨β,m.less l,l.keeps w,l.cw (Nat.le_refl _),h⟩
def bg.undef{w:World}{U:Nat->Prop}{β:Place}{H:Heap}{nx:Nat}:bg w U β H nx (.tuple []) Go.undef:=.tuple [] #[] rfl az
def ox(l:List Value)(j:Nat)(d:Value):l.toArray.getD j d=l.getD j d:=az
section
variable{w:World}{U:Nat->Prop}{β:Place}{H:Heap}{nx:Nat}
def oD{v:Value}{p:PV}(h:oo v p=true):bN w U p v/\v.oneCell'=true:=by
 unfold oo at h;split at h
 .simp at h;obtain⟨rfl,rfl⟩:=h;exact⟨.int _ _,rfl⟩
 .simp at h;subst h;exact⟨.bool _,rfl⟩
 .rename_i s b;have:s=b:=by
   obtain⟨⟨x⟩⟩:=s;obtain⟨⟨y⟩⟩:=b;simp at h;subst h;rfl
  subst this;exact⟨.str _,rfl⟩
 .exact⟨.none true none 0 (λ_=>rfl),rfl⟩
 .exact⟨.undef _,rfl⟩
 .exact⟨.undef _,rfl⟩
 .exact⟨.undef _,rfl⟩
 .cases h
def gi:∀(l:List Value) (c:List PV),iM l c=true->l.length=c.length/\∀(j:Nat) (y:PV),c[j]?=some y->bN w U y (l.getD j undef)/\(l.getD j undef).oneCell'=true
 |[],[],_=>⟨rfl,az⟩
 |[],_::_,h=>by simp[iM]at h
 |_::_,[],h=>by simp[iM]at h
 |v::r,p::q,h=>by
  simp only[iM,aL]at h;obtain⟨d,e⟩:=gi r q h.2;refine⟨by simp[d],λj y b=>?_⟩;cases j with
  |zero=>simp only[List.getElem?_cons_zero,ay]at b;subst b;exact oD h.1
  |succ j=>simp only[List.getElem?_cons_succ]at b;exact e j y b
def zl:∀(l:List Value) (c:List DV),nV l c=true->l.length=c.length/\∀(j:Nat) (y:DV),c[j]?=some y->bg w U β H nx y (l.getD j Go.undef)/\(l.getD j Go.undef).oneCell'=true
 |[],[],_=>⟨rfl,az⟩
 |[],_::_,h=>by simp[nV]at h
 |_::_,[],h=>by simp[nV]at h
 |v::r,p::q,h=>by
  cases p with
  |p p=>
   simp only[nV,aL]at h;obtain⟨d,e⟩:=zl r q h.2;refine⟨by simp[d],λj y b=>?_⟩;cases j with
   |zero=>
    simp only[List.getElem?_cons_zero,ay]at b;subst b;obtain⟨f,g⟩:=oD (w:=w) (U:=U) h.1;exact⟨.p _ _ f,g⟩
   |succ j=>simp only[List.getElem?_cons_succ]at b;exact e j y b
  |_=>simp[nV]at h
def IL{v:Value}{d:DV}(h:Ey v d=true):bg w U β H nx d v:=by
 unfold Ey at h;split at h
 .rename_i f g;obtain⟨e,b⟩:=zl (w:=w) (U:=U) (β:=β) (H:=H) (nx:=nx) _ _ h;obtain⟨l⟩:=f;simp only[]at e b;exact .agg g ⟨l⟩ e (λj y c=>by rw[ox];exact(b j y c).2) (λj y c=>by rw[ox];exact(b j y c).1)
 .exact .p _ _ (oD h).1
 .cases h
end
section
variable{P:Program}{cf:aK}{B:Nat}{w0:World}{U0:Nat->Prop}{nt:Cx}{β:Place}{s:St}{a:Act}{w:World}
def bJ.ev(g:bJ B w0 U0 nt β s a w){x:Operand}{d:DO}(h:bK x d=true){v:DV}(b:s.ev d=some v):
  bg w (Own U0 β s.heap) β s.heap s.next v (a.eval x):=by
 unfold bK at h;split at h
 .simp only[cH]at h;subst h;simp only[St.ev]at b;obtain⟨y,c,e⟩:=g.env _ _ b;simp only[Act.eval];rw[dH,c];exact e
 .simp only[St.ev,ay]at b;subst b;exact IL h
 .simp only[St.ev,ay]at b;subst b;simp only[cH]at h;subst h;exact .func _ [] #[] rfl az
 .cases h
def fi{o:Oper}{K:Act->World->Prop}{Q:Exit->Act->World->Prop}{x:Value}{w':World}(h:(execOp a.eval o).run P w=.ok (.value x) w')(b:K (a.put o.dst x) w'):
 o.wp P a w K Q:=by unfold Oper.wp;rw[h];exact b
def Kz{o:Oper}{K:Act->World->Prop}{Q:Exit->Act->World->Prop}{b:World}(h:(execOp a.eval o).run P w=.ok .skip b)(c:K (a.put o.dst undef) b):
 o.wp P a w K Q:=by unfold Oper.wp;rw[h];exact c
def bg.gY{U:Nat->Prop}{H:Heap}{nx:Nat}{k:IntKind}{n:Int}{x:Value}(h:bg w U β H nx (.p (.int k n)) x):x=.int k n:=by
 cases h with|p _ _ h=>cases h;rfl
def bg.ly{U:Nat->Prop}{H:Heap}{nx:Nat}{b:Bool}{x:Value}(h:bg w U β H nx (.p (.bool b)) x):x=.bool b:=by
 cases h with|p _ _ h=>cases h;rfl
def bg.kS{U:Nat->Prop}{H:Heap}{nx:Nat}{b:ByteArray}{x:Value}(h:bg w U β H nx (.p (.str b)) x):x=.string b:=by
 cases h with|p _ _ h=>cases h;rfl
def NR{b:BinOp}{k:IntKind}{x y:Int}{r:PV}(h:B4 b k x y=some r)(t:TypeId)(U:Nat->Prop):
  ∃v,(binOp b t (.int k x) (.int k y)).run P w=.ok v w/\bN w U r v:=by
 cases b<;>simp only[B4,ay]at h
 case quo|rem=>
  split at h
  .cases h
  .rename_i c;cases h;exact⟨_,by simp[binOp,Op.intDiv,c],.int _ _⟩
 case shl|shr|andNot=>cases h
 all_goals subst h
 case add|sub|mul=>exact⟨_,by simp[binOp,Op.intArith],.int _ _⟩
 case and=>exact⟨_,by simp[binOp,intBits_and],.int _ _⟩
 case or=>exact⟨_,by simp[binOp,intBits_or],.int _ _⟩
 case xor=>exact⟨_,by simp[binOp,intBits_xor],.int _ _⟩
 all_goals exact⟨_,by simp[binOp,Op.intCmp],.bool _⟩
def PX{c:BinOp}{v u:DV}{r:PV}(h:Cn c v u=some r){U:Nat->Prop}{H:Heap}{nx:Nat}{x y:Value}(e:bg w U β H nx v x)(f:bg w U β H nx u y)
  (t:TypeId)(g i:Operand):∃z,(do eqGuard c t g i x y;binOp c t x y:Sem Value).run P w=.ok z w/\bN w U r z:=by
 unfold Cn at h;split at h
 .rename_i k n m o;obtain rfl:=e.gY;obtain rfl:=f.gY;simp only[eqGuard_at_int,Sem.run_bind,Sem.run_pure,Result.andThen_ok];split at h
  .split at h
   .cases h
   .rename_i d;cases h;exact⟨_,by simp[binOp,Op.shift,d],.int _ _⟩
  .split at h
   .cases h
   .rename_i d;cases h;exact⟨_,by simp[binOp,Op.shift,d],.int _ _⟩
  .split at h
   .rename_i j;subst j;exact NR h t U
   .cases h
 .rename_i b l;obtain rfl:=e.kS;obtain rfl:=f.kS;simp only[eqGuard_at_string,Sem.run_bind,Sem.run_pure,Result.andThen_ok];cases c<;>simp only[fK]at h
  case add=>
   split at h
   .rename_i p;cases h;have:¬(((b.size+l.size:Nat):Int)>IntKind.i64.max):=by rw[IntKind.max_i64];omega
    exact⟨_,by simp only[binOp,Op.stringOp];rw[ak this];rfl,.str _⟩
   .cases h
  all_goals(first|(cases h;done)|(simp only[ay]at h;subst h;exact⟨_,by simp[binOp,Op.stringOp],.bool _⟩))
 .cases h
end
end
end Go.Dv
