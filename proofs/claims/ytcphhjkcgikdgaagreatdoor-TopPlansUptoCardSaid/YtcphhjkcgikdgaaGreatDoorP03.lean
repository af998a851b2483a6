/- Lemmas for the law of this claim. -/
import Derived.Test.YtcphhjkcgikdgaaGreatDoorP02
import Derived.Laws.Entries
import Derived.Laws.Slices
import Derived.Laws.StructEq
set_option linter.all false
namespace Go.Dv
section
open Go.RowKit
def mM{w:World}{B:Nat}{k:World}{g:Nat->Prop}{f:Place}{H:Heap}{l:Nat}(m:Mem B k g f H l w){a:List Nat}{id b c:Nat}{aY:ca}
  (h:ah H id=some aY)(n:f id=some (b,c))(o:id∈a)(t:B<=b):¬Own g f (cY H a) b:=by
 rintro(p|⟨q,d,u,i,j,r⟩)
 .have:=m.u0 b p;omega
 .obtain⟨v,s,_⟩:=(lr a H).sub _ _ i;have e:=m.h.inj _ _ _ _ _ _ _ h s n r;subst e;rw[Wf a H id d o i]at j;cases j
def iY{g d:Type}{f:g->Option d}{l:List g}{r:List d}(h:cl f l=some r){j:Nat}{y:d}(i:r[j]?=some y):∃a,l[j]?=some a/\f a=some y:=by
 obtain⟨o,m⟩:=eS h;have p:j<r.length:=by
  rcases cK j r.length with e|e
  .exact e
  .simp[List.getElem?_eq_none e]at i
 have c:j<l.length:=ae;obtain⟨b,k,n⟩:=m j l[j] (by simp[c]);rw[i]at k;cases k;exact⟨l[j],by simp[c],n⟩
def ql{B:Nat}{w0:World}{U0:Nat->Prop}{Y:Place}{H:Heap}{nx:Nat}{w:World}(m:Mem B w0 U0 Y H nx w)(M:List Nat):
  ∀(n:Nat) (v:DV) (p:PV) (x:Value),bE H n v=some p->(∀i∈eR H n v,i∈M)->bj w (Own U0 Y H) Y H nx v x->bP w (Own U0 Y (cY H M)) p x:=by
 have hk:=(lr M H).keeps (U0:=U0) (β:=Y) w;intro n;induction n with
 |zero=>intro v p x h;simp[bE]at h
 |succ n ih=>
  intro v p x h P V;cases V with
  |p v x hp=>simp only[bE,aw]at h;subst h;exact hp.lx hk
  |agg K L hl C hr=>
   simp only[bE]at h;cases z:cl (bE H n) K with
   |none=>rw[z]at h;cases h
   |some l=>
    rw[z]at h;simp only[aw]at h;subst h;have t:=(eS z).1;refine .agg l L ae (λj y o=>?_) (λj y o=>?_)
    .obtain⟨a,A,_⟩:=iY z o;exact C j a A
    .obtain⟨a,A,D⟩:=iY z o;exact ih a y _ D (λi N=>P i (by simp only[eR,List.mem_flatMap];exact⟨a,List.mem_of_getElem? A,N⟩)) (hr j a A)
  |tuple K L hl hr=>
   simp only[bE]at h;cases z:cl (bE H n) K with
   |none=>rw[z]at h;cases h
   |some l=>
    rw[z]at h;simp only[aw]at h;subst h;have t:=(eS z).1;refine .tuple l L ae (λj y o=>?_);obtain⟨a,A,D⟩:=iY z o;exact ih a y _ D (λi N=>P i (by simp only[eR,List.mem_flatMap];exact⟨a,List.mem_of_getElem? A,N⟩)) (hr j a A)
  |func f K L hl hr=>
   simp only[bE]at h;cases z:cl (bE H n) K with
   |none=>rw[z]at h;cases h
   |some l=>
    rw[z]at h;simp only[aw]at h;subst h;have t:=(eS z).1;refine .func f l L ae (λj y o=>?_);obtain⟨a,A,D⟩:=iY z o;exact ih a y _ D (λi N=>P i (by simp only[eR,List.mem_flatMap];exact⟨a,List.mem_of_getElem? A,N⟩)) (hr j a A)
  |kh f K L hl hr=>simp[bE]at h
  |ref id xm g k v hid hc F Z=>
   simp only[bE]at h;cases s:ah H id with
   |none=>rw[s]at h;cases h
   |some aY=>
    cases aY with
    |var f K|map _ _=>rw[s]at h;cases h
    |bh f Q I=>
     rw[s]at h;simp only at h;split at h
     case isFalse=>cases h
     rename_i x0;obtain⟨hv,J⟩:=x0;cases z:cl (λx=>cl (bE H n) x) ((I.drop g).take k)with
     |none=>rw[z]at h;cases h
     |some l=>
     rw[z]at h;simp only[aw]at h;subst h;have t:l.length=k:=by rw[(eS z).1];simp;omega
     rcases(Z _ _ _ s).2 hv J with⟨rfl,_,a,rfl⟩|⟨b,x1,a,G,rfl,A⟩
     .simp at J;obtain⟨rfl,rfl⟩:=J;have:l=[]:=List.eq_nil_of_length_eq_zero t;subst this;exact .none false a 0 aB
     .by_cases x2:k=0
      .subst x2;have:l=[]:=List.eq_nil_of_length_eq_zero t;subst this;exact .none false a _ aB
      .obtain rfl:=A (.inl ae);rcases m.h.aY id _ s with⟨r,W⟩|⟨b',X,E,T,C,R,S,h4,h5,h6,L,h7,h8,h9⟩
       .rw[G]at W;cases W
       .rw[G]at C;simp only[aw,bQ]at C;obtain⟨rfl,rfl⟩:=C;have u:∀i y,l[i]?=some y->∃x,I[g+i]?=some x/\cl (bE H n) x=some y/\x∈(I.drop g).take k:=by
         intro i y o;obtain⟨x,r,D⟩:=iY z o;have O:=List.mem_of_getElem? r;rw[List.getElem?_take]at r;split at r
         .rw[List.getElem?_drop]at r;exact⟨x,r,D,O⟩
         .cases r
        have:=bP.slice (w:=w) (U:=Own U0 Y (cY H M)) false l b (g*Q) (x1-g) Q E T (0,0) (λi j=>L (g+i) j)
         ae ae aB S (mM m s G (P id (by simp[eR])) R)
         (λy o=>by
          obtain⟨i,N⟩:=List.getElem?_of_mem o;obtain⟨x,r,D,_⟩:=u i y N;rw[(eS D).1];exact h6 x (List.mem_of_getElem? r))
         (λi y j q o hq=>by
          obtain⟨x,r,D,_⟩:=u i y o;obtain⟨d,V,_⟩:=iY D hq;have:=h7 (g+i) x j d r V;rw[<-this];congr 1;rw[dq])
         (λi y j q o hq=>by
          obtain⟨x,r,D,_⟩:=u i y o;obtain⟨d,V,_⟩:=iY D hq;exact h8 _ x j d r V)
         (λi y j q o hq=>by
          obtain⟨x,r,D,O⟩:=u i y o;obtain⟨d,V,hp⟩:=iY D hq;refine ih d q _ hp (λe he=>P e ?_) (h9 _ x j d r V);simp only[eR,s,List.mem_cons,List.mem_flatMap];right;exact⟨x,O,d,List.mem_of_getElem? V,he⟩)
        rw[t]at this;exact this
    |row f Q I=>
     rw[s]at h;simp only at h;split at h
     .rename_i x0;obtain⟨hv,J⟩:=x0;simp only[aw]at h;subst h;have t:((I.drop g).take k).length=k:=by simp;omega
      rcases(F _ _ _ s).2 hv J with⟨rfl,_,a,rfl⟩|⟨b,x1,a,G,rfl,A⟩
      .simp at J;obtain⟨rfl,rfl⟩:=J;exact .none false a 0 aB
      .by_cases x2:k=0
       .subst x2;simp only[List.take_zero];exact .none false a _ aB
       .obtain rfl:=A (.inl ae);rcases m.h.aY id _ s with⟨r,W⟩|⟨b',X,E,T,C,R,S,h4,h5,h6,L,h7,h8,h9⟩
        .rw[G]at W;cases W
        .rw[G]at C;simp only[aw,bQ]at C;obtain⟨rfl,rfl⟩:=C;have u:∀i x,((I.drop g).take k)[i]?=some x->I[g+i]?=some x:=by
          intro i x r;rw[List.getElem?_take]at r;split at r
          .rwa [List.getElem?_drop]at r
          .cases r
         have:=bP.slice (w:=w) (U:=Own U0 Y (cY H M)) false ((I.drop g).take k) b (g*Q) (x1-g) Q E T (0,0) (λi j=>L (g+i) j)
          ae ae aB S (mM m s G (P id (by simp[eR])) R) (λx r=>h6 x (List.mem_of_mem_drop (List.mem_of_mem_take r)))
          (λi x j y r o=>by
           have:=h7 (g+i) x j y (u i x r) o;rw[<-this];congr 1;rw[dq])
          (λi x j y r o=>h8 _ x j y (u i x r) o)
          (λi x j y r o=>(h9 _ x j y (u i x r) o).lx hk)
         rw[t]at this;exact this
     .cases h
  |ptr id g v hid hc F xg=>
   simp only[bE]at h;cases s:ah H id with
   |none=>rw[s]at h;cases h
   |some aY=>
    cases aY with
    |row f Q I|bh f Q I=>rw[s]at h;cases h
    |map fz c=>
     cases c with
     |ints kv=>rw[s]at h;cases h
     |strs k f=>
     rw[s]at h;simp only[aw]at h;subst h;obtain⟨b,c,G,rfl⟩:=xg _ _ s;obtain⟨b',c',es,x3,C,R,S,h4⟩:=m.h.aY id _ s;rw[G]at C;simp only[aw,bQ]at C;obtain⟨rfl,rfl⟩:=C;exact .map k f b es x3 S (mM m s G (P id (by simp[eR])) R) h4
    |var f K=>
     rw[s]at h;simp only at h;cases z:cl (bE H n) (K.drop g)with
     |none=>rw[z]at h;cases h
     |some l=>
      rw[z]at h;simp only[aw]at h;subst h;obtain⟨b,c,G,rfl⟩:=F _ _ s;obtain⟨b',c',E,T,C,R,S,h4,h5,h6⟩:=m.h.aY id _ s;rw[G]at C;simp only[aw,bQ]at C;obtain⟨rfl,rfl⟩:=C;have x4:∀j y,l[j]?=some y->∃a,K[g+j]?=some a/\bE H n a=some y:=by
       intro j y o;obtain⟨a,A,D⟩:=iY z o;rw[List.getElem?_drop]at A;exact⟨a,A,D⟩
      refine .eN l b g E T (0,0) (λj=>E.getD (g+j) undef) S (mM m s G (P id (by simp[eR])) R) (λj y o=>?_) (λj y o=>?_) (λj y o=>?_)
      .obtain⟨a,A,_⟩:=x4 j y o;have xn:g+j<E.size:=by
        rw[h4];rcases cK (g+j) K.length with h'|h'
        .exact h'
        .simp[List.getElem?_eq_none h']at A
       simp[xn]
      .obtain⟨a,A,_⟩:=x4 j y o;exact h5 _ a A
      .obtain⟨a,A,D⟩:=x4 j y o;refine ih a y _ D (λi N=>P i ?_) (h6 _ a A);simp only[eR,s,List.mem_cons,List.mem_flatMap];right;exact⟨a,List.mem_of_getElem? (i:=j) (by rw[List.getElem?_drop];exact A),N⟩
  |du id xm i g v hid hc F _=>
   simp only[bE]at h;cases s:ah H id with
   |none=>rw[s]at h;cases h
   |some aY=>
    cases aY with
    |var f K|bh f Q I|map _ _=>rw[s]at h;cases h
    |row f Q I=>
     rw[s]at h;simp only at h;split at h
     .rename_i hv;cases r:I[i]? with
      |none=>rw[r]at h;cases h
      |some x=>
       rw[r]at h;simp only[aw]at h;subst h;have N:i<I.length:=by
        rcases cK i I.length with h'|h'
        .exact h'
        .simp[List.getElem?_eq_none h']at r
       obtain⟨b,c,G,rfl⟩:=(F _ _ _ s).2 hv N;rcases m.h.aY id _ s with⟨xv,W⟩|⟨b',X,E,T,C,R,S,h4,h5,h6,L,h7,h8,h9⟩
       .rw[G]at W;cases W
       .rw[G]at C;simp only[aw,bQ]at C;obtain⟨rfl,rfl⟩:=C;refine .eN (x.drop g) b (i*Q+g) E T (0,0) (λj=>L i (g+j)) S (mM m s G (P id (by simp[eR])) R) (λj y o=>?_) (λj y o=>?_) (λj y o=>?_);all_goals rw[List.getElem?_drop]at o
        .have:=h7 i x (g+j) y r o;rw[<-Nat.add_assoc]at this;exact this
        .exact h8 i x _ y r o
        .exact(h9 i x _ y r o).lx hk
     .cases h
end
def nI:Value->PV->Bool
 | .int k n,.int a c=>decide (k=a)&&n==c
 | .bool b,.bool d=>b==d
 | .string s,.str e=>s.data.toList==e.data.toList
 | .slice none 0 0,.slice true []=>true
 | .map none,.undef=>true
 | .nilFunc,.undef=>true
 | .pointer none,.undef=>true
 |_,_=>false
def iB:List Value->List PV->Bool
 |[],[]=>true
 |v::r,p::q=>nI v p&&iB r q
 |_,_=>false
def nR:List Value->List DV->Bool
 |[],[]=>true
 |v::r,.p p::q=>nI v p&&nR r q
 |_,_=>false
def B6:Value->DV->Bool
 | .agg a,.agg b=>nR a.toList b
 |v,.p p=>nI v p
 |_,_=>false
def bL:Operand->DO->Bool
 | .tmp t,.t k=>t==k
 | .const v,.c d=>B6 v d
 | .func f,.c (.func g [])=>f==g
 |_,_=>false
def kJ:List Operand->List DO->Bool
 |[],[]=>true
 |x::r,d::q=>bL x d&&kJ r q
 |_,_=>false
def mU:Option Operand->Option DO->Bool
 |none,none=>true
 |some x,some d=>bL x d
 |_,_=>false
def lM(P:Program)(t:TypeId)(a:List PV):Bool:=
 match P.info? t with
 |some i=>match i.zero with
  |some z=>iB z.cells.toList a&&i.size==a.length
  |none=>false
 |none=>false
def dC(P:Program)(t:TypeId)(n:Nat):Bool:=
 match P.info? t with
 |some i=>i.size==n
 |none=>false
def iN(P:Program)(t:TypeId):Option Bool:=
 match P.underlying t with
 |some (.struct _)|some (.array _ _)=>some true
 |some _=>some false
 |none=>none
def zP(P:Program)(t:TypeId):Option Nat->Bool
 |none=>match iN P t with|some false=>true|_=>false
 |some n=>(match iN P t with|some true=>true|_=>false)&&dC P t n&&decide (0<n)
def pC(P:Program)(b:Array Field):List (Nat×Operand)->List (Nat×Nat×DO)->Bool
 |[],[]=>true
 |(i,x)::r,(a,n,d)::q=>(match b[i]? with|some f=>f.offset==a&&dC P f.type n|none=>false)&&bL x d&&pC P b r q
 |_,_=>false
def nK(a:Nat):List (Nat×Operand)->List (Nat×Nat×DO)->Bool
 |[],[]=>true
 |(i,x)::r,(b,n,d)::q=>b==i*a&&n==a&&bL x d&&nK a r q
 |_,_=>false
def Fm:List (Nat×Operand)->List (Nat×DO)->Bool
 |[],[]=>true
 |(i,x)::r,(j,d)::q=>i==j&&bL x d&&Fm r q
 |_,_=>false
def tn(P:Program)(a:Array Field):Bool:=a.toList.all λf=>(P.info? f.type).isSome
def qS(P:Program)(t:TypeId):Option Nat:=
 match P.underlying t with
 |some (.int _)=>some 0
 |some .bool=>some 1
 |some .string=>some 2
 |_=>none
def mn(P:Program)(d:Nat->Nat->List Field->Option (List (Nat×Nat)))(c e:Nat):List Field->Option (List (Nat×Nat))
 |[]=>some []
 |f::r=>if f.name != "_" then match qS P f.type with
   |some k=>if f.offset<e then match mn P d c e r with
     |some l=>some ((c+f.offset,k)::l)
     |none=>none
    else none
   |none=>match P.underlying f.type,P.info? f.type with
    |some (.struct g),some i=>if !P.stoodInHeld f.type&&decide (f.offset+i.size<=e)then match d (c+f.offset) i.size g.toList,mn P d c e r with
      |some a,some b=>some (a++b)
      |_,_=>none
     else none
    |_,_=>none
  else none
def uC(P:Program):Nat->Nat->Nat->List Field->Option (List (Nat×Nat))
 |0,_,_,_=>none
 |n+1,a,b,c=>mn P (uC P n) a b c
def qo(P:Program)(t:TypeId)(a:List Field)(jf:List (Nat×Nat)):Bool:=match P.info? t with
 |some i=>uC P 4 0 i.size a==some jf
 |none=>false
def bY(P:Program)(t:TypeId):Option TypeId:=
 match P.underlying t with
 |some (.slice e)=>some e
 |_=>none
def yH(P:Program)(t:TypeId):Bool:=match P.underlying t with|some .bool=>true|_=>false
def oO(P:Program)(t:TypeId):Bool:=match P.underlying t with|some .string=>true|_=>false
def jB(P:Program)(t b:TypeId)(bytes a:Nat):Bool:=
 match bY P t,bY P b with
 |some e,some _=>match P.info? e with
  |some i=>i.bytes==bytes&&i.size==a&&(match i.zero with|some z=>z.cells.size==a|none=>false)&&decide (0<a)&&decide (0<bytes)
  |none=>false
 |_,_=>false
def BH(P:Program)(t:TypeId)(a:List PV)(bytes:Nat):Bool:=
 match bY P t with
 |some e=>match P.info? e with
  |some i=>i.bytes==bytes&&lM P e a&&decide (0<a.length)
  |none=>false
 |none=>false
def BJ(P:Program)(t:TypeId)(a:Nat):Bool:=
 match bY P t with
 |some e=>dC P e a&&decide (0<a)
 |none=>false
def zl(P:Program)(t:TypeId)(a:List PV):Bool:=
 match bY P t with
 |some e=>lM P e a&&decide (0<a.length)
 |none=>false
def zi(b:BinOp)(a:Bool):Bool:=match b with| .eql=>!a| .neq=>a|_=>false
def isBuiltin(c:Call)(b:Builtin):Bool:=match c.callee with| .builtin a=>decide (a=b)|_=>false
def pW(P:Program)(t:TypeId):Bool:=match P.underlying t with
 |some (.map a _)=>oO P a
 |_=>false
def sf(P:Program)(c:Call):dN->Bool
 | .append bytes e g b=>isBuiltin c .append&&(match c.args.toList,c.argTypes.toList with
  |[s,x],[t,j]=>bL s g&&bL x b&&jB P t j bytes e
  |_,_=>false)
 | .mH bytes e g b=>isBuiltin c .append&&(match c.args.toList,c.argTypes.toList with
  |[s,x],[t,j]=>bL s g&&bL x b&&jB P t j bytes e
  |_,_=>false)
 | .jZ k a=>(match c.callee with| .value (.func f)=>f==k|_=>false)&&kJ c.args.toList a
 | .copy e g b=>isBuiltin c .copy&&(match c.args.toList,c.argTypes.toList with
  |[s,x],[t,_]=>bL s g&&bL x b&&BJ P t e
  |_,_=>false)
 | .len b=>isBuiltin c .len&&(match c.args.toList,c.argTypes.toList with
  |[x],[t]=>bL x b&&(bY P t).isSome
  |_,_=>false)
 | .lH b=>isBuiltin c .len&&(match c.args.toList,c.argTypes.toList with
  |[x],[t]=>bL x b&&oO P t
  |_,_=>false)
 | .clear h b=>isBuiltin c .clear&&(match c.args.toList,c.argTypes.toList with
  |[x],[t]=>bL x b&&zl P t h
  |_,_=>false)
 | .jr d b l=>isBuiltin c (if d then .max else .min)&&kJ c.args.toList (b::l)
 | .tX b=>isBuiltin c .len&&(match c.args.toList,c.argTypes.toList with
  |[x],[t]=>bL x b&&pW P t
  |_,_=>false)
 | .oj b n=>isBuiltin c .delete&&(match c.args.toList,c.argTypes.toList with
  |[x,i],[t,_]=>bL x b&&bL i n&&pW P t
  |_,_=>false)
 | .call _ k a=>(match c.callee with| .value (.func f)=>f==k|_=>false)&&kJ c.args.toList a
 | .eu _ m a=>(match c.callee with| .value o=>bL o m|_=>false)&&kJ c.args.toList a
 |_=>false
def uq(P:Program)(t:TypeId):Option TypeId:=
 match P.underlying t with
 |some (.map a b)=>match P.underlying a with
  |some .string=>some b
  |_=>none
 |_=>none
def BL(P:Program)(t:TypeId):PV->Bool
 | .agg a=>match P.info? t with
  |some i=>match i.zero with
   |some (.agg z)=>iB z.toList a
   |_=>false
  |none=>false
 |p=>match P.info? t with
  |some i=>match i.zero with
   |some z=>nI z p
   |none=>false
  |none=>false
def oh(P:Program):Op->dN->Bool
 | .move x,.move d=>bL x d
 | .assign x,.move d=>bL x d
 | .pick c a b,.pick C D R=>bL c C&&bL a D&&bL b R
 | .alloc t,.alloc zero=>lM P t zero
 | .box _ x,.box d=>bL x d
 | .build t g,.build zero w=>lM P t zero&&(match P.underlying t with
  |some (.struct u)=>tn P u&&pC P u g.toList w
  |some (.array _ e)=>match P.info? e with
   |some i=>nK i.size g.toList w
   |none=>false
  |_=>false)
 | .buildSlice t j g,.buildSlice zero z w=>(match bY P t with
  |some e=>lM P e zero&&decide (0<zero.length)&&decide (j*zero.length<=2^24)&&j==z&&Fm g.toList w&&decide (w.length<=j)
  |none=>false)
 | .buildSlice t j g,.je zero h=>j==1&&(match g.toList with|[(0,x)]=>bL x h|_=>false)&&(match bY P t with
  |some e=>lM P e zero&&decide (0<zero.length)&&decide (zero.length<=2^24)
  |none=>false)
 | .load t a,.load n d=>bL a d&&zP P t n
 | .store t a x,.store n D h=>bL a D&&bL x h&&dC P t n
 | .nilCheck x,.nilCheck d=>bL x d
 | .binOp p _ x y _,.bin q h A=>decide (p=q)&&bL x h&&bL y A
 | .binOp p t x y _,.isNil h=>decide (p=.eql)&&bL x h&&(match y with| .const (.slice none 0 0)=>true|_=>false)&&(bY P t).isSome
 | .binOp p t x y _,.HJ r h A=>zi p r&&bL x h&&bL y A&&yH P t
 | .binOp p t x y _,.qG r jf h A=>zi p r&&bL x h&&bL y A&&(match P.underlying t with
  |some (.struct u)=>qo P t u.toList jf&&!P.stoodInHeld t&&!P.eqGuardType P.depth t
  |_=>false)
 | .unOp p _ x,.un q d=>decide (p=q)&&bL x d
 | .convert E F x,.conv k d=>bL x d&&(P.underlying E).isSome&&(match P.underlying F with|some (.int S)=>decide (k=S)|_=>false)
 | .slice t x T N O,.slice B h G H I=>bL x h&&mU T G&&mU N H&&mU O I&&(O.isNone||N.isSome)&&(match bY P t with
  |some e=>dC P e B
  |none=>false)
 | .fieldAddr t x f,.fieldAddr J d=>bL x d&&(match P.underlying t with
  |some (.struct u)=>match u[f]? with
   |some Q=>Q.offset==J&&(match P.info? Q.type with|some i=>decide (0<i.size)|none=>false)
   |none=>false
  |_=>false)
 | .indexAddr t x i,.indexAddr B h m=>bL x h&&bL i m&&(match bY P t with
  |some e=>dC P e B
  |none=>false)
 | .indexAddr t x i,.cZ j B h m=>bL x h&&bL i m&&(match P.underlying t with
  |some (.array n e)=>n==j&&dC P e B
  |_=>false)
 | .index t x i,.index h m=>bL x h&&bL i m&&oO P t
 | .extract x i,.extract h m=>bL x h&&i==m
 | .makeSlice t l c,.makeSlice zero bytes U C=>bL l U&&bL c C&&BH P t zero bytes
 | .makeMap t none,.fT=>true
 | .lookup t x i V,.fO K zero h m=>V==K&&bL x h&&bL i m&&(match uq P t with
  |some e=>BL P e zero
  |none=>false)
 | .mapUpdate t x i v,.ew h m W=>bL x h&&bL i m&&bL v W&&(uq P t).isSome
 | .makeFunc L first o,.oR M first'=>(match L with| .func f=>f==M|_=>false)&&o.toList.isEmpty&&kJ first.toList first'
 | .makeInterface t x,.kS X h=>t==X&&bL x h&&(match P.underlying t with|some (.struct _)=>true|_=>false)
 | .makeFunc L first o,.eW M s=>(match L with| .func f=>f==M|_=>false)&&first.toList.isEmpty&&kJ o.toList s
 | .call c,d=>sf P c d
 |_,_=>false
def DO.rd:DO->List Nat
 | .t k=>[k]
 | .c _=>[]
def Rw:Option DO->List Nat
 |none=>[]
 |some x=>x.rd
def dN.rd:dN->List Nat
 | .move x| .box x| .load _ x| .nilCheck x| .un _ x| .conv _ x| .fieldAddr _ x| .extract x _| .len x| .lH x| .isNil x| .clear _ x| .je _ x| .tX x| .kS _ x=>x.rd
 | .pick c a b=>c.rd++a.rd++b.rd
 | .alloc _| .fT=>[]
 | .build _ e=>e.flatMap λp=>p.2.2.rd
 | .buildSlice _ _ e=>e.flatMap λp=>p.2.rd
 | .store _ a x| .bin _ a x| .HJ _ a x| .qG _ _ a x| .indexAddr _ a x| .cZ _ _ a x| .index a x| .makeSlice _ _ a x| .append _ _ a x| .mH _ _ a x| .copy _ a x| .fO _ _ a x| .oj a x=>a.rd++x.rd
 | .ew a x v=>a.rd++x.rd++v.rd
 | .slice _ x g h i=>x.rd++Rw g++Rw h++Rw i
 | .jr _ x d=>x.rd++d.flatMap DO.rd
 | .eW _ d| .oR _ d=>d.flatMap DO.rd
 | .call _ _ d| .jZ _ d=>d.flatMap DO.rd
 | .eu _ f d=>f.rd++d.flatMap DO.rd
def ai.rd(o:ai):List Nat:=(match o.guard with|some (k,_)=>[k]|none=>[])++o.op.rd
def dN.cls:dN->Nat
 | .move _| .pick _ _ _| .build _ _| .bin _ _ _| .HJ _ _ _| .qG _ _ _ _| .un _ _| .conv _ _| .index _ _| .extract _ _| .jr _ _ _| .eW _ _| .lH _| .isNil _| .oR _ _=>0
 | .load _ _| .slice _ _ _ _ _| .fieldAddr _ _| .indexAddr _ _ _| .cZ _ _ _ _| .len _| .nilCheck _| .buildSlice _ _ _| .call false _ _| .eu false _ _| .fO _ _ _ _| .tX _| .kS _ _=>1
 |_=>2
def apart(x y:ai):Bool:=
 (match x.dst with
  |some d=>!y.rd.contains d&&(match y.dst with|some e=>e !=d|none=>true)
  |none=>true)&&
 (match y.dst with
  |some e=>!x.rd.contains e
  |none=>true)
def dN.HU:dN->Bool
 | .alloc _| .box _| .makeSlice _ _ _ _=>true
 |_=>false
def iy(x y:ai):Bool:=apart x y&&(x.op.cls==0||y.op.cls==0||(x.op.cls==1&&y.op.cls==1)||(x.op.cls==1&&y.op.HU))
def qU(a:Array Oper)(o:Oper)(d:ai):Bool:=
 match o.guard,d.guard with
 |none,none=>true
 |some (j,w),some (k,b)=>w==b&&(match(a[j]?).bind (·.dst)with|some c=>c==k|none=>false)
 |_,_=>false
structure Bd where
 n:Nat
 oQ:List Nat
def Bd.free(b:Bd)(k:Nat):Bool:=decide (k<b.n)&&!b.oQ.contains k
def Db(c:Bd)(o:Oper)(d:ai):Bool:=
 match o.dst,d.dst with
 |none,none=>true
 |some a,some b=>a==b&&c.free b
 |_,_=>false
def b4(P:Program)(b:Bd)(a:Array Oper):List Oper->List ai->Bool
 |[],[]=>true
 |o::r,d::q=>Db b o d&&qU a o d&&oh P o.op d.op&&b4 P b a r q
 |_,_=>false
def direct(o:Oper):List Nat:=(o.after.toList.filter (Region.binds .any)).map (·.on)
def mW(a:List ai):Nat->List Oper->List ai->Bool
 |_,[],[]=>true
 |i,o::r,d::q=>
  (direct o).all (λp=>d.dp.contains p)&&
  d.dp.all (λp=>decide (p<i)&&((direct o).contains p||(direct o).any λk=>match a[k]? with|some e=>e.dp.contains p|none=>false))&&
  (List.range i).all (λj=>d.dp.contains j||match a[j]? with|some e=>iy e d|none=>false)&&
  mW a (i+1) r q
 |_,_,_=>false
def jf(o x:ai):Bool:=match o.dst with
 |none=>true
 |some k=>!x.rd.contains k&&x.dst !=some k
def qj(x:ai):Bool:=match x.dst with
 |none=>true
 |some k=>!x.rd.contains k
def yA(a:List ai)(j i:Nat):Bool:=match a[j]?,a[i]? with
 |some x,some y=>apart x y&&qj x&&qj y&&(List.range a.length).all λq=>match a[q]? with
  |some o=>(decide (q<=j)||jf o x)&&(decide (q<=i)||jf o y)
  |none=>true
 |_,_=>false
def ma(b:List (Nat×Nat))(a:List ai):Nat->List Oper->List ai->Bool
 |_,[],[]=>true
 |i,o::r,d::q=>
  (direct o).all (λp=>d.dp.contains p)&&
  d.dp.all (λp=>decide (p<i)&&((direct o).contains p||(direct o).any λk=>match a[k]? with|some e=>e.dp.contains p|none=>false))&&
  (List.range i).all (λj=>d.dp.contains j||(match a[j]? with|some e=>iy e d|none=>false)||(b.contains (j,i)&&yA a j i))&&
  ma b a (i+1) r q
 |_,_,_=>false
def lY(a:List Nat)(i:Nat):Nat:=a.getD i 0
def Aj(a:List ai)(j i:Nat):Bool:=match a[j]?,a[i]? with
 |some x,some y=>apart x y&&qj x&&qj y&&(List.range a.length).all λq=>match a[q]? with
  |some o=>(q==j||x.dp.contains q||jf o x)&&(q==i||y.dp.contains q||jf o y)
  |none=>true
 |_,_=>false
def rp(b:List (Nat×Nat))(c:List Nat)(a:List ai)(f:List Oper):Bool:=
 (List.range a.length).all λi=>match f[i]?,a[i]? with
  |some o,some d=>
   (direct o).all (λp=>d.dp.contains p)&&
   d.dp.all (λp=>decide (p<a.length)&&decide (lY c p<lY c i)&&((direct o).contains p||(direct o).any λk=>match a[k]? with|some e=>e.dp.contains p|none=>false))&&
   (List.range a.length).all (λj=>decide (lY c i<=lY c j)||d.dp.contains j||(match a[j]? with|some e=>iy e d|none=>false)||(b.contains (j,i)&&Aj a j i))
  |_,_=>false
def Da(a:List Nat):Nat->List Nat->List (List Nat)
 |0,_=>[[]]
 |n+1,l=>if l.isEmpty then[[]]else(l.filter λm=>l.all λx=>decide (lY a m<=lY a x)).flatMap λm=>(Da a n (l.erase m)).map (m::·)
def dN.sC:dN->Bool
 | .move _| .load _ _| .fieldAddr _ _| .nilCheck _| .indexAddr _ _ _| .extract _ _| .bin _ _ _| .len _| .lH _| .eW _ _=>true
 |_=>false
def dN.RB:dN->Bool
 | .call true _ _=>true
 |_=>false
def jw(a:List ai)(c:Nat):Nat->List Oper->List ai->Bool
 |_,[],[]=>true
 |i,o::r,d::q=>
  (direct o).all (λp=>d.dp.contains p)&&
  d.dp.all (λp=>decide (p<i)&&((direct o).contains p||(direct o).any λk=>match a[k]? with|some e=>e.dp.contains p|none=>false))&&
  (List.range i).all (λj=>d.dp.contains j||match a[j]? with|some e=>(decide (i<c)&&iy e d)||(decide (i=c)&&apart e d)||(decide (c<i)&&decide (j≠c)&&iy e d)|none=>false)&&
  jw a c (i+1) r q
 |_,_,_=>false
def uO(P:Program)(i:Bd)(str:Bool)(m:Nat)(hid:List Nat)(j k l:List Oper)(c:Nat):Bool:=
 match j,k,hid with
 |[⟨some k1,.move (.tmp n),_,_,_,none⟩,⟨some f,.range mt (.tmp o),_,_,_,none⟩],
  [⟨some g,.next (.tmp p) d,_,_,_,none⟩,⟨some h,.extract (.tmp a4) 0,_,_,_,none⟩],b::a::e=>
  str==d&&n==m&&o==k1&&p==f&&a4==g&&c==h&&b==f&&decide (b::a::e).Nodup&&(b::a::e).all i.free&&!(b::a::e).contains m&&
  (if str then oO P mt&&a==g&&e==[k1,h]
   else pW P mt&&e==[k1,g,h]&&match l with
    |⟨some q,.entry (.tmp a5),_,_,_,none⟩::_=>a5==f&&a==q
    |_=>false)
 |_,_,_=>false
def aV(P:Program)(g:Bd):Code->aC->Bool
 |c,.ghost _ a=>aV P g c a
 |c,.after a _=>aV P g c a
 | .skip,.skip=>true
 | .region _ e f,.region j i _=>f==j&&b4 P g e e.toList i&&(!f||mW i 0 e.toList i)
 | .seq a b,.seq A B=>aV P g a A&&aV P g b B
 | .cond c x y,.cond q C D=>bL c q&&aV P g x C&&aV P g y D
 | .block id c,.block p q=>id==p&&aV P g c q
 | .loop c,.loop q=>aV P g c q
 | .exit id,.exit p=>id==p
 | .ret,.ret=>true
 | .label _,.skip=>true
 | .region _ e f,.aT j r=>f==j&&b4 P g e e.toList (r.map (·.1))&&(!f||mW (r.map (·.1)) 0 e.toList (r.map (·.1)))
 | .region _ e f,.iI n i _=>f&&b4 P g e e.toList i&&ma n i 0 e.toList i
 | .region _ e f,.ob n w s i _ _=>f&&b4 P g e e.toList i&&rp n w i e.toList&&(Da w i.length (List.range i.length)).all λl=>s.contains l
 | .region _ e f,.aS r=>!f&&b4 P g e e.toList (r.map (·.1))
 | .region _ e f,.j2 pre h post _=>f&&b4 P g e e.toList (pre++h::post)&&pre.all (λd=>d.op.sC&&d.guard.isNone&&d.dst.isSome&&(match h.dst with|some k=>!d.rd.contains k&&d.dst !=some k|none=>true))&&decide (pre.filterMap (·.dst)).Nodup&&h.op.RB&&h.guard.isNone&&jw (pre++h::post) pre.length 0 e.toList (pre++h::post)
 | .region _ e f,.panic i x=>!f&&b4 P g e e.toList.dropLast i&&(match e.toList.getLast? with
   |some o=>o.guard.isNone&&(match o.op with| .panic y=>bL y x|_=>false)
   |none=>false)
 | .seq (.seq (.region _ E false) (.block v (.loop (.seq (.region _ F false) (.seq (.cond (.tmp c) .skip (.exit t)) (.block H (.seq (.region _ u false) G))))))) (.seq b d),.forIn str m hid i x y z=>
  v==t&&uO P g str m hid E.toList F.toList u.toList c&&b4 P {g with oQ:=hid.head?.toList++g.oQ} u (if str then u.toList else u.toList.tail) i&&aV P {g with oQ:=hid.head?.toList++g.oQ} G x&&aV P g b y&&aV P g d z
 |_,_=>false
def eZ(P:Program):List ResultVar->List gm->Bool
 |[],[]=>true
 | .tmp t::r,.tmp a::q=>t==a&&eZ P r q
 | .cell t b::r,.cell a n::q=>t==a&&(match iN P b with|some true=>true|_=>false)&&dC P b n&&decide (0<n)&&eZ P r q
 |_,_=>false
def fP(P:Program)(f:FuncId)(a:au):Bool:=
 match P.funcs[f]? with
 |some fn=>match fn.body with
  |some c=>fn.name != "runtime.NumGoroutine" &&fn.ntmps==a.ntmps&&decide (a.nparams<=a.ntmps)&&eZ P fn.results.toList a.results&&aV P ⟨a.ntmps,[]⟩ c a.body
  |none=>false
 |none=>false
section
open Go.RowKit
structure Cx where
 n:Nat
 ws:World
 βs:Place
 Hs:Heap
 ns:Nat
 oQ:List Nat
 val:Nat->Value
def Cx.bd(nt:Cx):Bd:=⟨nt.n,nt.oQ⟩
def lJ{nt:Cx}{k:Nat}(h:nt.bd.free k=true):k<nt.n:=by
 simp only[Bd.free,Cx.bd,aO]at h;exact Lv h.1
def Am{nt:Cx}{k:Nat}(h:nt.bd.free k=true):k∉nt.oQ:=by
 simp only[Bd.free,Cx.bd,aO,jW]at h;intro b;have:=List.contains_iff_mem.2 b;rw[h.2]at this;cases this
structure bH(B:Nat)(w0:World)(U0:Nat->Prop)(nt:Cx)(β:Place)(s:St)(a:Act)(w:World):Prop where
 mem:Mem B w0 U0 β s.heap s.next w
 env:∀k d,ah s.env k=some d->∃v,a.tmps[k]?=some v/\bj w (Own U0 β s.heap) β s.heap s.next d v
 size:a.tmps.size=nt.n
 defers:a.defers=[]/\∀k∈nt.oQ,a.tmps[k]?=some (nt.val k)
 keeps:dT nt.ws (Own U0 nt.βs nt.Hs) w (Own U0 β s.heap)
 cn:ku nt.βs nt.Hs nt.ns β s.heap s.next
 marks:∀c∈s.marks,nt.ns<=c
def Good(B:Nat)(w0:World)(U0:Nat->Prop)(H:Heap)(nx:Nat)(β:Place)(w:World)(v:DV)(d:Heap)(c:Nat)(x:Value)(e:World):Prop:=
 ∃b,Mem B w0 U0 b d c e/\dT w (Own U0 β H) e (Own U0 b d)/\ku β H nx b d c/\bj e (Own U0 b d) b d c v x
def ku.trans{β p d:Place}{H D q:Heap}{n E r:Nat}(c:ku β H n p D E)(t:ku p D E d q r):ku β H n d q r:=
 ⟨dL c.next t.next,λk b f u y h=>by
   obtain⟨g,i,j,v,z⟩:=t.row k (pb b c.next) f u y h;obtain⟨l,m,o,x,A⟩:=c.row k b g u i j;exact⟨l,m,o,ae,λe=>by rw[z ae,A ae]⟩,
  λk b f C h=>by
   obtain⟨g,i,j,v⟩:=t.var k (pb b c.next) f C h;obtain⟨l,m,o,x⟩:=c.var k b g i j;exact⟨l,m,o,by rw[v,x]⟩,
  λk b f C h=>by
   obtain⟨g,i,j,v⟩:=t.map k (pb b c.next) f C h;obtain⟨l,m,o,x⟩:=c.map k b g i j;exact⟨l,m,o,by rw[v,x]⟩,
  λk b f u y h=>by
   obtain⟨g,i,j,v,z⟩:=t.bh k (pb b c.next) f u y h;obtain⟨l,m,o,x,A⟩:=c.bh k b g u i j;exact⟨l,m,o,ae,λe=>by rw[z ae,A ae]⟩⟩
def dT.refl(w:World)(U:Nat->Prop):dT w U w U:=⟨λ_ _ _ _ h=>h,λ_ _ _ h _=>h⟩
def dT.trans{w g d:World}{U i e:Nat->Prop}(a:dT w U g i)(b:dT g i d e):dT w U d e:=
 ⟨λk o c f h=>b.block k o c (a.out k o c f h) (a.block k o c f h),λk o c f h=>b.out k o c (a.out k o c f h) (a.block k o c f h)⟩
def bl{B:Nat}{w0:World}{U0:Nat->Prop}{H:Heap}{nx:Nat}{β:Place}{w:World}{v:DV}{x:Value}(m:Mem B w0 U0 β H nx w)
 (h:bj w (Own U0 β H) β H nx v x):Good B w0 U0 H nx β w v H nx x w:=⟨β,m,dT.refl _ _,ku.refl _ _ _,h⟩
def np{B:Nat}{w0:World}{U0:Nat->Prop}{H b:Heap}{nx:Nat}{β:Place}{w:World}{v:DV}{x:Value}(m:Mem B w0 U0 β H nx w)(l:gT H b)
 (h:bj w (Own U0 β b) β b nx v x):Good B w0 U0 H nx β w v b nx x w:=⟨β,m.less l,l.keeps w,l.cn (Nat.le_refl _),h⟩
def bj.undef{w:World}{U:Nat->Prop}{β:Place}{H:Heap}{nx:Nat}:bj w U β H nx (.tuple []) Go.undef:=.tuple [] #[] rfl aB
def nV(l:List Value)(j:Nat)(d:Value):l.toArray.getD j d=l.getD j d:=aB
section
variable{w:World}{U:Nat->Prop}{β:Place}{H:Heap}{nx:Nat}
def nU{v:Value}{p:PV}(h:nI v p=true):bP w U p v/\v.oneCell'=true:=by
 unfold nI at h;split at h
 .simp at h;obtain⟨rfl,rfl⟩:=h;exact⟨.int _ _,rfl⟩
 .simp at h;subst h;exact⟨.bool _,rfl⟩
 .rename_i s b;have:s=b:=by
   obtain⟨⟨x⟩⟩:=s;obtain⟨⟨y⟩⟩:=b;simp at h;subst h;rfl
  subst this;exact⟨.str _,rfl⟩
 .exact⟨.none true none 0 (λ_=>rfl),rfl⟩
 .exact⟨.undef _,rfl⟩
 .exact⟨.undef _,rfl⟩
 .exact⟨.undef _,rfl⟩
 .cases h
def fM:∀(l:List Value) (c:List PV),iB l c=true->l.length=c.length/\∀(j:Nat) (y:PV),c[j]?=some y->bP w U y (l.getD j undef)/\(l.getD j undef).oneCell'=true
 |[],[],_=>⟨rfl,aB⟩
 |[],_::_,h=>by simp[iB]at h
 |_::_,[],h=>by simp[iB]at h
 |v::r,p::q,h=>by
  simp only[iB,aO]at h;obtain⟨d,e⟩:=fM r q h.2;refine⟨by simp[d],λj y b=>?_⟩;cases j with
  |zero=>simp only[List.getElem?_cons_zero,aw]at b;subst b;exact nU h.1
  |succ j=>simp only[List.getElem?_cons_succ]at b;exact e j y b
def xE:∀(l:List Value) (c:List DV),nR l c=true->l.length=c.length/\∀(j:Nat) (y:DV),c[j]?=some y->bj w U β H nx y (l.getD j Go.undef)/\(l.getD j Go.undef).oneCell'=true
 |[],[],_=>⟨rfl,aB⟩
 |[],_::_,h=>by simp[nR]at h
 |_::_,[],h=>by simp[nR]at h
 |v::r,p::q,h=>by
  cases p with
  |p p=>
   simp only[nR,aO]at h;obtain⟨d,e⟩:=xE r q h.2;refine⟨by simp[d],λj y b=>?_⟩;cases j with
   |zero=>
    simp only[List.getElem?_cons_zero,aw]at b;subst b;obtain⟨f,g⟩:=nU (w:=w) (U:=U) h.1;exact⟨.p _ _ f,g⟩
   |succ j=>simp only[List.getElem?_cons_succ]at b;exact e j y b
  |_=>simp[nR]at h
def Jq{v:Value}{d:DV}(h:B6 v d=true):bj w U β H nx d v:=by
 unfold B6 at h;split at h
 .rename_i f g;obtain⟨e,b⟩:=xE (w:=w) (U:=U) (β:=β) (H:=H) (nx:=nx) _ _ h;obtain⟨l⟩:=f;simp only[]at e b;exact .agg g ⟨l⟩ e (λj y c=>by rw[nV];exact(b j y c).2) (λj y c=>by rw[nV];exact(b j y c).1)
 .exact .p _ _ (nU h).1
 .cases h
end
section
variable{P:Program}{cf:aI}{B:Nat}{w0:World}{U0:Nat->Prop}{nt:Cx}{β:Place}{s:St}{a:Act}{w:World}
def bH.ev(g:bH B w0 U0 nt β s a w){x:Operand}{d:DO}(h:bL x d=true){v:DV}(b:s.ev d=some v):
  bj w (Own U0 β s.heap) β s.heap s.next v (a.eval x):=by
 unfold bL at h;split at h
 .simp only[cw]at h;subst h;simp only[St.ev]at b;obtain⟨y,c,e⟩:=g.env _ _ b;simp only[Act.eval];rw[dA,c];exact e
 .simp only[St.ev,aw]at b;subst b;exact Jq h
 .simp only[St.ev,aw]at b;subst b;simp only[cw]at h;subst h;exact .func _ [] #[] rfl aB
 .cases h
def ez{o:Oper}{K:Act->World->Prop}{Q:Exit->Act->World->Prop}{x:Value}{w':World}(h:(execOp a.eval o).run P w=.ok (.value x) w')(b:K (a.put o.dst x) w'):
 o.wp P a w K Q:=by unfold Oper.wp;rw[h];exact b
def JO{o:Oper}{K:Act->World->Prop}{Q:Exit->Act->World->Prop}{b:World}(h:(execOp a.eval o).run P w=.ok .skip b)(c:K (a.put o.dst undef) b):
 o.wp P a w K Q:=by unfold Oper.wp;rw[h];exact c
def bj.gJ{U:Nat->Prop}{H:Heap}{nx:Nat}{k:IntKind}{n:Int}{x:Value}(h:bj w U β H nx (.p (.int k n)) x):x=.int k n:=by
 cases h with|p _ _ h=>cases h;rfl
def bj.ld{U:Nat->Prop}{H:Heap}{nx:Nat}{b:Bool}{x:Value}(h:bj w U β H nx (.p (.bool b)) x):x=.bool b:=by
 cases h with|p _ _ h=>cases h;rfl
def bj.kR{U:Nat->Prop}{H:Heap}{nx:Nat}{b:ByteArray}{x:Value}(h:bj w U β H nx (.p (.str b)) x):x=.string b:=by
 cases h with|p _ _ h=>cases h;rfl
def L4{b:BinOp}{k:IntKind}{x y:Int}{r:PV}(h:BF b k x y=some r)(t:TypeId)(U:Nat->Prop):
  ∃v,(binOp b t (.int k x) (.int k y)).run P w=.ok v w/\bP w U r v:=by
 cases b<;>simp only[BF,aw]at h
 case quo|rem=>
  split at h
  .cases h
  .rename_i c;cases h;exact⟨_,by simp[binOp,Op.intDiv,c],.int _ _⟩
 case shl|shr|andNot=>cases h
 all_goals subst h
 case add|sub|mul=>exact⟨_,by simp[binOp,Op.intArith],.int _ _⟩
 case and=>exact⟨_,by simp[binOp,intBits_and],.int _ _⟩
 case or=>exact⟨_,by simp[binOp,intBits_or],.int _ _⟩
 case xor=>exact⟨_,by simp[binOp,intBits_xor],.int _ _⟩
 all_goals exact⟨_,by simp[binOp,Op.intCmp],.bool _⟩
def Ps{c:BinOp}{v u:DV}{r:PV}(h:DK c v u=some r){U:Nat->Prop}{H:Heap}{nx:Nat}{x y:Value}(e:bj w U β H nx v x)(f:bj w U β H nx u y)
  (t:TypeId)(g i:Operand):∃z,(do eqGuard c t g i x y;binOp c t x y:Sem Value).run P w=.ok z w/\bP w U r z:=by
 unfold DK at h;split at h
 .rename_i k n m o;obtain rfl:=e.gJ;obtain rfl:=f.gJ;simp only[eqGuard_at_int,Sem.run_bind,Sem.run_pure,Result.andThen_ok];split at h
  .split at h
   .cases h
   .rename_i d;cases h;exact⟨_,by simp[binOp,Op.shift,d],.int _ _⟩
  .split at h
   .cases h
   .rename_i d;cases h;exact⟨_,by simp[binOp,Op.shift,d],.int _ _⟩
  .split at h
   .rename_i j;subst j;exact L4 h t U
   .cases h
 .rename_i b l;obtain rfl:=e.kR;obtain rfl:=f.kR;simp only[eqGuard_at_string,Sem.run_bind,Sem.run_pure,Result.andThen_ok];cases c<;>simp only[fA]at h
  case add=>
   split at h
   .rename_i p;cases h;have:¬(((b.size+l.size:Nat):Int)>IntKind.i64.max):=by rw[IntKind.max_i64];omega
    exact⟨_,by simp only[binOp,Op.stringOp];rw[an this];rfl,.str _⟩
   .cases h
  all_goals(first|(cases h;done)|(simp only[aw]at h;subst h;exact⟨_,by simp[binOp,Op.stringOp],.bool _⟩))
 .cases h
end
end
end Go.Dv
