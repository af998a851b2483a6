/- Lemmas for the law of this claim. -/
import Derived.Test.YtcphhjkcgikdgaaGreatDoorP09
set_option linter.all false
namespace Go.Dv
section
open Go.RowKit
def du{s s':St}{x:DO}(h:∀k∈x.rd,ag s'.env k=ag s.env k):s'.ev x=s.ev x:=by
 cases x with
 |t k=>exact h k (by simp[DO.rd])
 |c v=>rfl
def jE{s s':St}:∀(a:List DO),(∀k∈a.flatMap DO.rd,ag s'.env k=ag s.env k)->gH s' a=gH s a
 |[],_=>rfl
 |x::r,h=>by
  simp only[gH];rw[du (λk b=>h k (by simp[b])),jE r (λk b=>h k (by simp only[List.flatMap_cons,List.mem_append];exact .inr b))]
def qk{s c:St}:∀(a:List (Nat×Nat×DO)),(∀k∈a.flatMap (λp=>p.2.2.rd),ag c.env k=ag s.env k)->ff c a=ff s a
 |[],_=>rfl
 |(o,n,x)::r,h=>by
   simp only[ff];rw[du (λk b=>h k (by simp[b])),qk r (λk b=>h k (by simp only[List.flatMap_cons,List.mem_append];exact .inr b))]
def oS{s c:St}:∀(a:List (Nat×DO)),(∀k∈a.flatMap (λp=>p.2.rd),ag c.env k=ag s.env k)->ja c a=ja s a
 |[],_=>rfl
 |(o,x)::r,h=>by
   simp only[ja];rw[du (λk b=>h k (by simp[b])),oS r (λk b=>h k (by simp only[List.flatMap_cons,List.mem_append];exact .inr b))]
def sD{s s':St}{x:Option DO}(h:∀k∈SZ x,ag s'.env k=ag s.env k)(d:Int):tH s' x d=tH s x d:=by
 cases x with
 |none=>rfl
 |some x=>simp only[tH];rw[du h]
def qo{s s':St}{x:Option DO}(h:∀k∈SZ x,ag s'.env k=ag s.env k):se s' x=se s x:=by
 cases x with
 |none=>rfl
 |some x=>simp only[se];rw[du h]
def wJ{r:aK}{d:dX}{s h:St}(g:∀k∈d.rd,ag h.env k=ag s.env k)(j:h.heap=s.heap)(m:h.next=s.next):bf r d h=bf r d s:=by
 cases d<;>simp only[dX.rd,List.mem_append]at g
 case move x|box x|load n x|nilCheck x|un o x|conv k x|fieldAddr o x|extract x i|len x|lU x|isNil x|clear z x|jv z x|ll t x=>simp only[bf,j,m,du g]
 case ni b z a x|store n a x|bin o a x|Im o a x|ru o f a x|indexAddr n a x|dh l n a x|index a x|makeSlice z b a x|append b z a x|copy z a x|iu o z a x|oR a x=>simp only[bf,j,m,du (s:=s) (s':=h) (x:=a) λk e=>g k (.inl e),du (s:=s) (s':=h) (x:=x) λk e=>g k (.inr e)]
 case jT f p=>simp only[bf,jE p g];rw[j,m]
 case pick c a b=>
  have u:=du (s:=s) (s':=h) (x:=c) λk e=>g k (.inl (.inl e))
  have w:=du (s:=s) (s':=h) (x:=a) λk e=>g k (.inl (.inr e))
  have y:=du (s:=s) (s':=h) (x:=b) λk e=>g k (.inr e)
  simp only[bf,j,m,u];split
  .rename_i t _;cases t
   .simp only[Bool.false_eq_true,cK,y]
   .simp only[cQ,w]
  .rfl
 case alloc z|jW=>simp only[bf,j,m]
 case build z q=>simp only[bf,j,m,qk q g]
 case buildSlice z l q=>simp only[bf,j,m,oS q g]
 case slice z x A B C=>
  simp only[bf,j,m,du (s:=s) (s':=h) (x:=x) λk e=>g k (.inl (.inl (.inl e))),sD (s:=s) (s':=h) (x:=A) λk e=>g k (.inl (.inl (.inr e))),
   qo (s:=s) (s':=h) (x:=B) λk e=>g k (.inl (.inr e)),qo (s:=s) (s':=h) (x:=C) λk e=>g k (.inr e)]
 case jM b x p=>simp only[bf,j,m,du (s:=s) (s':=h) (x:=x) λk e=>g k (.inl e),jE (s:=s) (s':=h) p λk e=>g k (.inr e)]
 case fT f p|pk f p|call b f p=>simp only[bf,j,m,jE p g]
 case jw a x v=>simp only[bf,j,m,du (s:=s) (s':=h) (x:=a) λk e=>g k (.inl (.inl e)),du (s:=s) (s':=h) (x:=x) λk e=>g k (.inl (.inr e)),du (s:=s) (s':=h) (x:=v) λk e=>g k (.inr e)]
 case eM b f p=>simp only[bf,j,m,du (s:=s) (s':=h) (x:=f) λk e=>g k (.inl e),jE (s:=s) (s':=h) p λk e=>g k (.inr e)]
def qO(e a:Env):Prop:=∀k d,ag e k=some d->ag a k=some d
def fL{s:St}{a:Env}(b:qO s.env a){x:DO}{v:DV}(h:s.ev x=some v):St.ev {s with env:=a} x=some v:=by
 cases x with
 |t k=>exact b k v h
 |c d=>exact h
def uX{s:St}{c:Env}(d:qO s.env c):∀(e:List DO) (l:List DV),gH s e=some l->gH {s with env:=c} e=some l
 |[],l,h=>h
 |x::r,l,h=>by
  simp only[gH]at h⊢;cases a:s.ev x with
  |none=>rw[a]at h;cases h
  |some v=>cases b:gH s r with
   |none=>rw[a,b]at h;cases h
   |some q=>rw[a,b]at h;rw[fL d a,uX d r q b];exact h
def wj{s:St}{c:Env}(d:qO s.env c):∀(e:List (Nat×Nat×DO)) (l:List (Nat×Nat×DV)),ff s e=some l->ff {s with env:=c} e=some l
 |[],l,h=>h
 |(o,n,x)::r,l,h=>by
   simp only[ff]at h⊢;cases a:s.ev x with
   |none=>rw[a]at h;cases h
   |some v=>cases b:ff s r with
    |none=>rw[a,b]at h;cases h
    |some q=>rw[a,b]at h;rw[fL d a,wj d r q b];exact h
def D1{s:St}{c:Env}(d:qO s.env c):∀(e:List (Nat×DO)) (l:List (Nat×DV)),ja s e=some l->ja {s with env:=c} e=some l
 |[],l,h=>h
 |(o,x)::r,l,h=>by
   simp only[ja]at h⊢;cases a:s.ev x with
   |none=>rw[a]at h;cases h
   |some v=>cases b:ja s r with
    |none=>rw[a,b]at h;cases h
    |some q=>rw[a,b]at h;rw[fL d a,D1 d r q b];exact h
def Pw{s:St}{b:Env}(c:qO s.env b){x:Option DO}{d v:Int}(h:tH s x d=some v):tH {s with env:=b} x d=some v:=by
 cases x with
 |none=>exact h
 |some x=>
  simp only[tH]at h⊢;cases a:s.ev x with
  |none=>rw[a]at h;cases h
  |some u=>rw[a]at h;rw[fL c a];exact h
def FL{s:St}{b:Env}(c:qO s.env b){x:Option DO}{v:Option Int}(h:se s x=some v):se {s with env:=b} x=some v:=by
 cases x with
 |none=>exact h
 |some x=>
  simp only[se]at h⊢;cases a:s.ev x with
  |none=>rw[a]at h;cases h
  |some u=>rw[a]at h;rw[fL c a];exact h
def Pl{H:aK}{d:dX}{s:St}{I:Env}(g:qO s.env I){r:DV×Heap×Nat}(h:bf H d s=some r):bf H d {s with env:=I}=some r:=by
 cases d
 case move x|box x|load n x|nilCheck x|un o x|conv k x|fieldAddr o x|extract x i|len x|lU x|isNil x|clear z x|ll t x|jv z x=>
  simp only[bf]at h⊢;cases j:s.ev x with
  |none=>rw[j]at h;cases h
  |some v=>rw[j]at h;rw[fL g j];exact h
 case store n a x|bin o a x|Im o a x|ru o f a x|indexAddr n a x|dh l n a x|index a x|makeSlice z b a x|append b z a x|copy z a x=>
  simp only[bf]at h⊢;cases w:s.ev a with
  |none=>rw[w]at h;cases h
  |some u=>cases j:s.ev x with
   |none=>rw[w,j]at h;first|(cases h;done)|(split at h<;>first|(cases h;done)|simp_all)
   |some v=>rw[w,j]at h;rw[fL g w,fL g j];exact h
 case alloc z|jW=>exact h
 case jw a x y=>
  simp only[bf]at h⊢;split at h
  .rename_i B C J;rw[fL g B,fL g C,fL g J];exact h
  .cases h
 case oR a x|iu o z a x=>
  simp only[bf]at h⊢;split at h
  .rename_i B C;rw[fL g B,fL g C];exact h
  .cases h
 case pk f q|jT f q|fT f q|call b f q=>
  simp only[bf]at h⊢;cases j:gH s q with
  |none=>rw[j]at h;cases h
  |some v=>rw[j]at h;rw[uX g _ _ j];exact h
 case pick c a b=>
  simp only[bf]at h⊢;cases D:s.ev c with
  |none=>rw[D]at h;cases h
  |some v=>
   rw[D]at h;rw[fL g D];revert h;split
   .rename_i t e;cases e;intro h;cases j:s.ev (if t then a else b)with
    |none=>rw[j]at h;cases h
    |some u=>rw[j]at h;rw[fL g j];exact h
   .intro h;cases h
 case build z E=>
  simp only[bf]at h⊢;cases j:ff s E with
  |none=>rw[j]at h;cases h
  |some v=>rw[j]at h;rw[wj g _ _ j];exact h
 case buildSlice z l E=>
  simp only[bf]at h⊢;cases j:ja s E with
  |none=>rw[j]at h;cases h
  |some v=>rw[j]at h;rw[D1 g _ _ j];exact h
 case slice z x K L M=>
  simp only[bf]at h⊢;cases m:s.ev x with
  |none=>rw[m]at h;cases h
  |some v1=>cases p:tH s K 0 with
   |none=>rw[m,p]at h;cases h
   |some F=>cases A:se s L with
    |none=>rw[m,p,A]at h;cases h
    |some N=>cases G:se s M with
     |none=>rw[m,p,A,G]at h;cases h
     |some v4=>rw[m,p,A,G]at h;rw[fL g m,Pw g p,FL g A,FL g G];exact h
 case jM b x q=>
  simp only[bf]at h⊢;cases m:s.ev x with
  |none=>rw[m]at h;cases h
  |some v1=>cases p:gH s q with
   |none=>rw[m,p]at h;first|(cases h;done)|(split at h<;>first|(cases h;done)|simp_all)
   |some F=>rw[m,p]at h;rw[fL g m,uX g _ _ p];exact h
 case ni b z a x=>
  simp only[bf]at h⊢;cases m:s.ev a with
  |none=>rw[m]at h;cases h
  |some v1=>cases p:s.ev x with
   |none=>rw[m,p]at h;cases h
   |some F=>rw[m,p]at h;rw[fL g m,fL g p];exact h
 case eM b f q=>
  simp only[bf]at h⊢;cases m:s.ev f with
  |none=>rw[m]at h;cases h
  |some v1=>cases p:gH s q with
   |none=>rw[m,p]at h;first|(cases h;done)|(split at h<;>first|(cases h;done)|simp_all)
   |some F=>rw[m,p]at h;rw[fL g m,uX g _ _ p];exact h
def TU{g:Option (Nat×Bool)}{e c:Env}(d:qO e c){b:Bool}(h:gd g e=some b):gd g c=some b:=by
 cases g with
 |none=>exact h
 |some p=>
  obtain⟨k,w⟩:=p;simp only[gd]at h⊢;cases a:ag e k with
  |none=>rw[a]at h;cases h
  |some v=>rw[a]at h;rw[d _ _ a];exact h
def Gs{e a:Env}(b:qO e a)(k:Option Nat)(v:DV):qO (dF e k v) (dF a k v):=by
 intro i d h;cases k with
 |none=>exact b i d h
 |some k=>
  simp only[dF]at h⊢;rw[kb]at h⊢;split at h
  .rename_i e;rw[aq e];exact h
  .rename_i e;rw[ak e];exact b i d h
def LO{c:aK}{o:aj}{s d:St}{e:Env}(a:qO s.env e)(h:cX c o s=some d):∃i,cX c o {s with env:=e}=some {d with env:=i}/\qO d.env i:=by
 unfold cX at h⊢;cases f:gd o.guard s.env with
 |none=>rw[f]at h;cases h
 |some b=>
  rw[f]at h;rw[show gd o.guard ({s with env:=e}:St).env=some b from TU a f];cases b with
  |false=>cases h;exact⟨_,rfl,Gs a _ _⟩
  |true=>
   simp only at h⊢;cases g:bf c o.op s with
   |none=>rw[g]at h;cases h
   |some r=>
    rw[g]at h;rw[Pl a g];cases h;exact⟨_,rfl,Gs a _ _⟩
def BF{e:aK}:∀(l:List (aj×List Nat)) (s a:St) (b:Env),qO s.env b->oX e l s=some a->∃c,bO e (l.map (·.1)) {s with env:=b}=some {a with env:=c}/\qO a.env c
 |[],s,a,b,f,h=>by simp only[oX,ay]at h;subst h;exact⟨b,rfl,f⟩
 |(o,k)::r,s,a,b,f,h=>by
   simp only[oX]at h;cases g:cX e o s with
   |none=>rw[g]at h;cases h
   |some j=>
    rw[g]at h;obtain⟨c,m,n⟩:=LO f g;obtain⟨p,q,t⟩:=BF r {j with env:=da j.env k} a c (λi d u=>n i d (gX k _ _ _ u)) h;exact⟨p,by simp only[List.map_cons,bO,m];exact q,t⟩
def NF{l:aK}{d:dX}{s:St}(m:d.cls=0){v:DV}{n:Heap}{c:Nat}(h:bf l d s=some (v,n,c)):n=s.heap/\c=s.next/\∀(H:Heap) (a:Nat),bf l d {s with heap:=H,next:=a}=some (v,H,a):=by
 have k:∀(H:Heap) (a:Nat) (x:DO),St.ev {s with heap:=H,next:=a} x=s.ev x:=λH a x=>du λ_ _=>rfl
 have e:∀(H:Heap) (a:Nat) (x:List DO),gH {s with heap:=H,next:=a} x=gH s x:=λH a x=>jE _ λ_ _=>rfl
 have g:∀(H:Heap) (a:Nat) (x:List (Nat×Nat×DO)),ff {s with heap:=H,next:=a} x=ff s x:=λH a x=>qk _ λ_ _=>rfl
 have i:∀(H:Heap) (a:Nat) (x:Option DO) (d:Int),tH {s with heap:=H,next:=a} x d=tH s x d:=λH a x d=>sD (λ_ _=>rfl) d
 have j:∀(H:Heap) (a:Nat) (x:Option DO),se {s with heap:=H,next:=a} x=se s x:=λH a x=>qo λ_ _=>rfl
 cases d
 case call b f o|eM b f o=>cases b<;>simp[dX.cls]at m
 all_goals(try(simp[dX.cls]at m;done))
 all_goals(simp only[bf]at h;simp only[bf,k,e,g,i,j])
 all_goals
  (repeat'(split at h))<;>first|(cases h;done)|(cases h;refine⟨rfl,rfl,λH a=>?_⟩;simp_all)
def bq.strip:bq->bq
 | .var _ c=>.var false c
 | .row _ a b=>.row false a b
 | .map _ d=>.map false d
 | .aV _ a b=>.aV false a b
def qm(H a:Heap):Prop:=∀id,(ag a id).map bq.strip=(ag H id).map bq.strip
def qm.var{H a:Heap}(h:qm H a){id:Nat}{f:Bool}{c:List DV}(e:ag H id=some (.var f c)):∃g,ag a id=some (.var g c):=by
 have:=h id;rw[e]at this;cases d:ag a id with
 |none=>rw[d]at this;cases this
 |some b=>rw[d]at this;cases b<;>simp[bq.strip]at this;subst this;exact⟨_,rfl⟩
def qm.row{H a:Heap}(h:qm H a){id:Nat}{f:Bool}{c:Nat}{d:List (List PV)}(g:ag H id=some (.row f c d)):∃i,ag a id=some (.row i c d):=by
 have:=h id;rw[g]at this;cases e:ag a id with
 |none=>rw[e]at this;cases this
 |some b=>rw[e]at this;cases b<;>simp[bq.strip]at this;obtain⟨rfl,rfl⟩:=this;exact⟨_,rfl⟩
def qm.map{H a:Heap}(h:qm H a){id:Nat}{f:Bool}{c:MC}(e:ag H id=some (.map f c)):∃g,ag a id=some (.map g c):=by
 have:=h id;rw[e]at this;cases d:ag a id with
 |none=>rw[d]at this;cases this
 |some b=>rw[d]at this;cases b<;>simp[bq.strip]at this;subst this;exact⟨_,rfl⟩
def qm.aV{H a:Heap}(h:qm H a){id:Nat}{f:Bool}{c:Nat}{d:List (List DV)}(g:ag H id=some (.aV f c d)):∃i,ag a id=some (.aV i c d):=by
 have:=h id;rw[g]at this;cases e:ag a id with
 |none=>rw[e]at this;cases this
 |some b=>rw[e]at this;cases b<;>simp[bq.strip]at this;obtain⟨rfl,rfl⟩:=this;exact⟨_,rfl⟩
def qm.none{H a:Heap}(h:qm H a){id:Nat}(c:ag H id=none):ag a id=none:=by
 have:=h id;rw[c]at this;cases d:ag a id with
 |none=>rfl
 |some b=>rw[d]at this;cases this
def qm.symm{H a:Heap}(h:qm H a):qm a H:=λid=>(h id).symm
def Dw(a:List Nat):∀H,qm H (dp H a):=by
 induction a with
 |nil=>exact λH id=>rfl
 |cons i r c=>
  intro H id;rw[dp,c,sQ];split
  .cases ag H id with
   |none=>rfl
   |some b=>cases b<;>rfl
  .rfl
def j3{b c:Type}{f g:b->Option c}:∀(l:List b),(∀a∈l,f a=g a)->bP f l=bP g l
 |[],_=>rfl
 |a::r,h=>by
  simp only[bP];rw[h a az,j3 r λx d=>h x (by simp[d])]
def eU{b c:Type}{f g:b->List c}:∀(l:List b),(∀a∈l,f a=g a)->l.flatMap f=l.flatMap g
 |[],_=>rfl
 |a::r,h=>by
  simp only[List.flatMap_cons];rw[h a az,eU r λx d=>h x (by simp[d])]
def DY{H s:Heap}(h:qm H s):∀(n:Nat) (v:DV),aS s n v=aS H n v:=by
 intro n;induction n with
 |zero=>intro v;rfl
 |succ n o=>
  intro v;cases v with
  |p|kK f j=>rfl
  |agg j|tuple j|func f j=>simp only[aS];rw[j3 j λa _=>o a]
  |ref id q off k=>
   simp only[aS];cases c:ag H id with
   |none=>rw[h.none c]
   |some b=>cases b with
    |var f j=>obtain⟨g,e⟩:=h.var c;rw[e]
    |row f l m=>obtain⟨g,e⟩:=h.row c;rw[e]
    |map f r=>obtain⟨g,e⟩:=h.map c;rw[e]
    |aV f l m=>obtain⟨g,e⟩:=h.aV c;rw[e];simp only;rw[j3 _ λa _=>j3 a λd _=>o d]
  |ptr id off=>
   simp only[aS];cases c:ag H id with
   |none=>rw[h.none c]
   |some b=>cases b with
    |var f j=>obtain⟨g,e⟩:=h.var c;rw[e];simp only;rw[j3 _ λa _=>o a]
    |row f l m=>obtain⟨g,e⟩:=h.row c;rw[e]
    |map f r=>obtain⟨g,e⟩:=h.map c;rw[e];cases r<;>rfl
    |aV f l m=>obtain⟨g,e⟩:=h.aV c;rw[e]
  |dA id q i off=>
   simp only[aS];cases c:ag H id with
   |none=>rw[h.none c]
   |some b=>cases b with
    |var f j=>obtain⟨g,e⟩:=h.var c;rw[e]
    |row f l m=>obtain⟨g,e⟩:=h.row c;rw[e]
    |map f r=>obtain⟨g,e⟩:=h.map c;rw[e]
    |aV f l m=>obtain⟨g,e⟩:=h.aV c;rw[e]
def DA{H r:Heap}(h:qm H r):∀(n:Nat) (v:DV),fg r n v=fg H n v:=by
 intro n;induction n with
 |zero=>intro v;rfl
 |succ n l=>
  intro v;cases v with
  |p|kK f j|dA id m i off=>rfl
  |agg j|tuple j|func f j=>simp only[fg];rw[eU j λa _=>l a]
  |ref id m off k=>
   simp only[fg];cases c:ag H id with
   |none=>rw[h.none c]
   |some b=>cases b with
    |var f j=>obtain⟨g,e⟩:=h.var c;rw[e]
    |row f o q=>obtain⟨g,e⟩:=h.row c;rw[e]
    |map f s=>obtain⟨g,e⟩:=h.map c;rw[e]
    |aV f o q=>obtain⟨g,e⟩:=h.aV c;rw[e];simp only;rw[eU _ λa _=>eU a λd _=>l d]
  |ptr id off=>
   simp only[fg];cases c:ag H id with
   |none=>rw[h.none c]
   |some b=>cases b with
    |var f j=>obtain⟨g,e⟩:=h.var c;rw[e];simp only;rw[eU _ λa _=>l a]
    |row f o q=>obtain⟨g,e⟩:=h.row c;rw[e]
    |map f s=>obtain⟨g,e⟩:=h.map c;rw[e]
    |aV f o q=>obtain⟨g,e⟩:=h.aV c;rw[e]
def wh{H b:Heap}(h:qm H b)(a:Nat):∀(l:List (Nat×DV)) (k:Nat),dv b a k l=dv H a k l
 |[],_=>rfl
 |(i,v)::r,k=>by
   simp only[dv];rw[DY h,wh h a r (k+1)]
def Hu{H g:Heap}(h:qm H g)(c:Nat)(x:DV)(i:Int)(j k:Option Int):jx g c x i j k=jx H c x i j k:=by
 cases x with
 |ref id l m n=>
  simp only[jx];cases a:ag H id with
  |none=>rw[h.none a]
  |some b=>cases b with
   |var f q=>obtain⟨d,e⟩:=h.var a;rw[e]
   |row f c o=>obtain⟨d,e⟩:=h.row a;rw[e]
   |map f r=>obtain⟨d,e⟩:=h.map a;rw[e]
   |aV f c o=>obtain⟨d,e⟩:=h.aV a;rw[e]
 |p v=>cases v<;>rfl
 |_=>rfl
def sU{g:aK}{H i:Heap}(j:qm H i){f:FuncId}{l:List DV}{k:Nat}{v:DV}{m:Heap}{c:Nat}(h:jk g false f l H k=some (v,m,c)):
  ∃d,m=dp H d/\c=k/\∀b,jk g false f l i b=some (v,dp i d,b):=by
 simp only[jk,Bool.false_eq_true,cK]at h⊢;rw[j3 l λa _=>DY j dep a,eU l λa _=>DA j dep a];cases n:bP (aS H dep) l with
 |none=>rw[n]at h;cases h
 |some p=>
  rw[n]at h;simp only at h⊢;cases o:g.pure f p with
  |none=>rw[o]at h;cases h
  |some r=>
   rw[o]at h;simp only[ay,bY]at h⊢;obtain⟨rfl,rfl,rfl⟩:=h;by_cases e:r.plain=true
   .exact⟨[],by rw[aq e];rfl,rfl,λb=>by simp[e,dp]⟩
   .exact⟨l.flatMap (fg H dep),by rw[ak e],rfl,λb=>by simp[e]⟩
def Rj{H d:Heap}(h:qm H d)(v:DV):vO d v=vO H v:=by
 unfold vO;split
 .rename_i id;cases a:ag H id with
  |none=>rw[h.none a]
  |some b=>cases b with
   |var f k=>obtain⟨c,e⟩:=h.var a;rw[e]
   |row f g i=>obtain⟨c,e⟩:=h.row a;rw[e]
   |map f j=>obtain⟨c,e⟩:=h.map a;rw[e];cases j<;>rfl
   |aV f g i=>obtain⟨c,e⟩:=h.aV a;rw[e]
 .rfl
 .rfl
def D0{Y:aK}{d:dX}{s:St}(W:d.cls=1){v:DV}{Z:Heap}{R:Nat}(h:bf Y d s=some (v,Z,R)){H:Heap}(G:qm s.heap H):
  ∃B,Z=dp s.heap B/\R=s.next/\bf Y d {s with heap:=H}=some (v,dp H B,s.next):=by
 have C:∀(x:DO),St.ev {s with heap:=H} x=s.ev x:=λx=>du λ_ _=>rfl
 have O:∀(x:List DO),gH {s with heap:=H} x=gH s x:=λx=>jE _ λ_ _=>rfl
 have S:∀(x:List (Nat×DO)),ja {s with heap:=H} x=ja s x:=λx=>oS _ λ_ _=>rfl
 have T:∀(x:Option DO) (d:Int),tH {s with heap:=H} x d=tH s x d:=λx d=>sD (λ_ _=>rfl) d
 have U:∀(x:Option DO),se {s with heap:=H} x=se s x:=λx=>qo λ_ _=>rfl
 have rd:∀(id:Nat),ag s.heap id=none/\ag H id=none\/(∃f g D,ag s.heap id=some (.var f D)/\ag H id=some (.var g D))\/(∃f g A w,ag s.heap id=some (.row f A w)/\ag H id=some (.row g A w))\/(∃f g K,ag s.heap id=some (.map f K)/\ag H id=some (.map g K))\/∃f g A w,ag s.heap id=some (.aV f A w)/\ag H id=some (.aV g A w):=by
  intro id;cases u:ag s.heap id with
  |none=>exact .inl ⟨rfl,G.none u⟩
  |some b=>cases b with
   |var f D=>obtain⟨g,e⟩:=G.var u;exact .inr (.inl ⟨f,g,D,rfl,e⟩)
   |row f A w=>obtain⟨g,e⟩:=G.row u;exact .inr (.inr (.inl ⟨f,g,A,w,rfl,e⟩))
   |map f K=>obtain⟨g,e⟩:=G.map u;exact .inr (.inr (.inr (.inl ⟨f,g,K,rfl,e⟩)))
   |aV f A w=>obtain⟨g,e⟩:=G.aV u;exact .inr (.inr (.inr (.inr ⟨f,g,A,w,rfl,e⟩)))
 cases d
 case call b f w=>
  cases b with
  |true=>simp[dX.cls]at W
  |false=>
   simp only[bf,O]at h⊢;cases J:gH s w with
   |none=>rw[J]at h;cases h
   |some l=>
    rw[J]at h;obtain⟨B,c,j,M⟩:=sU G h;exact⟨B,c,j,M _⟩
 case eM b fv w=>
  cases b with
  |true=>simp[dX.cls]at W
  |false=>
   simp only[bf,O,C]at h⊢;split at h
   .rename_i f P l I J;try rw[I,J]
    obtain⟨B,c,j,M⟩:=sU G h;exact⟨B,c,j,M _⟩
   .rename_i f P l I J;try rw[I,J]
    obtain⟨B,c,j,M⟩:=sU G h;exact⟨B,c,j,M _⟩
   .rename_i f P l I J;try rw[I,J]
    obtain⟨B,c,j,M⟩:=sU G h;exact⟨B,c,j,M _⟩
   .cases h
 case slice A x lo Q mx=>
  simp only[bf,C,T,U]at h⊢;split at h
  .rename_i q l hh m c j M e4;try rw[c,j,M,e4]
   try simp only
   rw[Hu G];cases hr:jx s.heap A q l hh m with
   |none=>rw[hr]at h;cases h
   |some r=>
    rw[hr]at h;obtain⟨r,B⟩:=r;cases h;exact⟨B,rfl,rfl,rfl⟩
  .cases h
 case buildSlice z len ps=>
  simp only[bf,S]at h⊢;cases J:ja s ps with
  |none=>rw[J]at h;cases h
  |some l=>
   rw[J]at h;simp only at h⊢;rw[wh G,eU _ λa _=>DA G dep a];cases hx:dv s.heap z.length 0 l with
   |none=>rw[hx]at h;cases h
   |some w=>
    rw[hx]at h;cases h;exact⟨_,rfl,rfl,rfl⟩
 case load n x=>
  simp only[bf,C]at h⊢;refine⟨[],?_⟩;simp only[dp];cases I:s.ev x with
  |none=>rw[I]at h;cases h
  |some q=>
   rw[I]at h;cases q with
   |ptr id off=>
    simp only at h⊢;rcases rd id with⟨c,j⟩|⟨f,g,D,c,j⟩|⟨f,g,A,w,c,j⟩|⟨f,g,K,c,j⟩|⟨f,g,A,w,c,j⟩<;>rw[c]at h<;>rw[j]
    rotate_right 2
    .cases h
    .cases h
    .cases h
    .cases n with
     |none=>simp only at h⊢;cases u:D[off]?<;>rw[u]at h<;>cases h;exact⟨rfl,rfl,rfl⟩
     |some n=>simp only at h⊢;cases u:ez D off n<;>rw[u]at h<;>cases h;exact⟨rfl,rfl,rfl⟩
    .cases h
   |p q=>
    cases q with
    |dT D=>
     cases n with
     |none=>simp only at h⊢;cases u:D[0]?<;>rw[u]at h<;>cases h;exact⟨rfl,rfl,rfl⟩
     |some n=>simp only at h⊢;cases u:ez D 0 n<;>rw[u]at h<;>cases h;exact⟨rfl,rfl,rfl⟩
    |_=>cases h
   |dA id N i off=>
    simp only at h⊢;rcases rd id with⟨c,j⟩|⟨f,g,D,c,j⟩|⟨f,g,A,w,c,j⟩|⟨f,g,K,c,j⟩|⟨f,g,A,w,c,j⟩<;>rw[c]at h<;>rw[j]
    rotate_right 2
    .cases h
    .simp only at h⊢;split at h
     .rename_i L;rw[aq L];cases Q:w[i]? with
      |none=>rw[Q]at h;cases h
      |some y=>
       rw[Q]at h;cases n with
       |none=>simp only at h⊢;cases u:y[off]?<;>rw[u]at h<;>cases h;exact⟨rfl,rfl,rfl⟩
       |some n=>simp only at h⊢;cases u:ez y off n<;>rw[u]at h<;>cases h;exact⟨rfl,rfl,rfl⟩
     .cases h
    .cases h
    .cases h
    .simp only at h⊢;split at h
     .rename_i L;rw[aq L];cases Q:w[i]? with
      |none=>rw[Q]at h;cases h
      |some y=>
       rw[Q]at h;cases n with
       |none=>simp only at h⊢;cases u:y[off]?<;>rw[u]at h<;>cases h;exact⟨rfl,rfl,rfl⟩
       |some n=>simp only at h⊢;cases u:ez y off n<;>rw[u]at h<;>cases h;exact⟨rfl,rfl,rfl⟩
     .cases h
   |_=>cases h
 case nilCheck x=>
  simp only[bf,C]at h⊢;refine⟨[],?_⟩;simp only[dp];cases I:s.ev x with
  |none=>rw[I]at h;cases h
  |some q=>
   rw[I]at h;simp only at h⊢;have X:kF H q=kF s.heap q:=by
    cases q with
    |ptr id off|dA id N i off=>simp only[kF];rcases rd id with⟨c,j⟩|⟨f,g,D,c,j⟩|⟨f,g,A,w,c,j⟩|⟨f,g,K,c,j⟩|⟨f,g,A,w,c,j⟩<;>rw[c,j]
    |p v=>cases v<;>rfl
    |_=>rfl
   rw[X];split at h
   .rename_i u;cases h;rw[aq u];exact⟨rfl,rfl,rfl⟩
   .cases h
 case fieldAddr off x=>
  simp only[bf,C]at h⊢;refine⟨[],?_⟩;simp only[dp];cases I:s.ev x with
  |none=>rw[I]at h;cases h
  |some q=>
   rw[I]at h;cases q with
   |ptr id o=>
    simp only at h⊢;rcases rd id with⟨c,j⟩|⟨f,g,D,c,j⟩|⟨f,g,A,w,c,j⟩|⟨f,g,K,c,j⟩|⟨f,g,A,w,c,j⟩<;>rw[c]at h<;>rw[j]<;>cases h
    exact⟨rfl,rfl,rfl⟩
   |dA id N i o=>
    simp only at h⊢;rcases rd id with⟨c,j⟩|⟨f,g,D,c,j⟩|⟨f,g,A,w,c,j⟩|⟨f,g,K,c,j⟩|⟨f,g,A,w,c,j⟩<;>rw[c]at h<;>rw[j]
    rotate_right 2
    .cases h
    .simp only at h⊢;split at h
     .rename_i u;cases h;rw[aq u];exact⟨rfl,rfl,rfl⟩
     .cases h
    .cases h
    .cases h
    .simp only at h⊢;split at h
     .rename_i u;cases h;rw[aq u];exact⟨rfl,rfl,rfl⟩
     .cases h
   |p v=>cases v<;>cases h;exact⟨rfl,rfl,rfl⟩
   |_=>cases h
 case indexAddr A x i=>
  simp only[bf,C]at h⊢;refine⟨[],?_⟩;simp only[dp];split at h
  .rename_i V w k n c j;try rw[c,j]
   try simp only
   split at h
   .rename_i h0;rw[aq h0];cases hy:w[n.toNat]? with
    |none=>rw[hy]at h;cases h
    |some y=>
     rw[hy]at h;simp only at h⊢;split at h
     .rename_i J;cases h;rw[aq J];exact⟨rfl,rfl,rfl⟩
     .cases h
   .cases h
  .rename_i id N off k kk n c j;try rw[c,j]
   try simp only
   rcases rd id with⟨E,F⟩|⟨f,g,D,E,F⟩|⟨f,g,A,w,E,F⟩|⟨f,g,K,E,F⟩|⟨f,g,A,w,E,F⟩<;>rw[E]at h<;>rw[F]
   rotate_right 2
   .cases h
   .simp only at h⊢;split at h
    .rename_i u;cases h;rw[aq u];exact⟨rfl,rfl,rfl⟩
    .cases h
   .cases h
   .cases h
   .simp only at h⊢;split at h
    .rename_i u;cases h;rw[aq u];exact⟨rfl,rfl,rfl⟩
    .cases h
  .cases h
 case dh len A x i=>
  simp only[bf,C]at h⊢;refine⟨[],?_⟩;simp only[dp];split at h
  .rename_i id off k n c j;try rw[c,j]
   try simp only
   rcases rd id with⟨E,F⟩|⟨f,g,D,E,F⟩|⟨f,g,A,w,E,F⟩|⟨f,g,K,E,F⟩|⟨f,g,A,w,E,F⟩<;>rw[E]at h<;>rw[F]
   rotate_right 2
   .cases h
   .cases h
   .cases h
   .simp only at h⊢;split at h
    .rename_i u;cases h;rw[aq u];exact⟨rfl,rfl,rfl⟩
    .cases h
   .cases h
  .cases h
 case iu o x3 x i=>
  simp only[bf,C]at h⊢;refine⟨[],?_⟩;simp only[dp];split at h
  .rename_i xv k c j;try rw[c,j]
   try simp only
   rw[Rj G];split at h
   .rename_i n' g hf;simp only[ay,bY]at h;obtain⟨rfl,rfl,rfl⟩:=h
    (try rw[hf])
    exact⟨rfl,rfl,rfl⟩
   .cases h
  .cases h
 case ll t x=>
  simp only[bf,C]at h⊢;refine⟨[],?_⟩;simp only[dp];split at h
  .rename_i xv c;try rw[c]
   try simp only
   rw[DY G,DA G];split at h
   .rename_i p X;split at h
    .rename_i ht;simp only[ay,bY]at h;obtain⟨rfl,rfl,rfl⟩:=h
     (try rw[X])
     (try simp only[ht,cQ])
     first|exact⟨rfl,rfl,rfl⟩|exact⟨trivial,trivial,az⟩
    .cases h
   .cases h
  .cases h
 case len x=>
  simp only[bf,C]at h⊢;refine⟨[],?_⟩;simp only[dp];split at h
  .rename_i V w c;cases h;(try rw[c]);exact⟨rfl,rfl,rfl⟩
  .rename_i id N off n c;try rw[c]
   try simp only
   rcases rd id with⟨E,F⟩|⟨f,g,D,E,F⟩|⟨f,g,A,w,E,F⟩|⟨f,g,K,E,F⟩|⟨f,g,A,w,E,F⟩<;>rw[E]at h<;>rw[F]
   rotate_right 2
   .cases h
   .cases h
   .cases h
   .cases h
   .simp only at h⊢;split at h
    .rename_i u;cases h;rw[aq u];exact⟨rfl,rfl,rfl⟩
    .cases h
  .cases h
 all_goals(simp[dX.cls]at W)
def Sub(H a:Heap):Prop:=∀id b,ag H id=some b->ag a id=some b
def ve{e i:Type}{f g:e->Option i}:∀(l:List e) (r:List i),bP f l=some r->(∀a∈l,∀b,f a=some b->g a=some b)->bP g l=some r
 |[],r,h,_=>h
 |a::l,r,h,k=>by
  simp only[bP]at h⊢;cases c:f a with
  |none=>rw[c]at h;cases h
  |some b=>
   rw[c]at h;rw[k a az b c];cases d:bP f l with
   |none=>rw[d]at h;cases h
   |some j=>
    rw[d]at h;rw[ve l j d λx m=>k x (by simp[m])];exact h
def sP{e g:Type}{f:e->Option g}:∀(l:List e) (r:List g),bP f l=some r->∀a∈l,∃b,f a=some b
 |[],r,_,a,c=>by cases c
 |x::l,r,h,a,c=>by
  simp only[bP]at h;cases d:f x with
  |none=>rw[d]at h;cases h
  |some b=>
   rw[d]at h;rcases List.mem_cons.1 c with rfl|c
   .exact⟨b,d⟩
   .cases i:bP f l with
    |none=>rw[i]at h;cases h
    |some j=>exact sP l j i a c
def rC{H s:Heap}(h:Sub H s):∀(n:Nat) (v:DV) (p:PV),aS H n v=some p->aS s n v=some p/\fg s n v=fg H n v/\∀id∈fg H n v,∃b,ag H id=some b:=by
 intro n;induction n with
 |zero=>intro v p c;cases c
 |succ n y=>
  have m:∀(d:List DV) (l:List PV),bP (aS H n) d=some l->bP (aS s n) d=some l/\d.flatMap (fg s n)=d.flatMap (fg H n)/\∀id∈d.flatMap (fg H n),∃b,ag H id=some b:=by
   intro d l j;have t:=sP d l j;refine⟨ve d l j λa _ b o=>(y a b o).1,eU d λa q=>?_,λid hid=>?_⟩
   .obtain⟨b,o⟩:=t a q;exact(y a b o).2.1
   .obtain⟨a,q,z⟩:=List.mem_flatMap.1 hid;obtain⟨b,o⟩:=t a q;exact(y a b o).2.2 id z
  intro v p c;cases v with
  |p=>exact⟨c,rfl,by simp[fg]⟩
  |agg d|tuple d|func f d=>
   simp only[aS,fg]at c⊢;cases j:bP (aS H n) d with
   |none=>rw[j]at c;cases c
   |some l=>rw[j]at c;obtain⟨A,B,C⟩:=m d l j;rw[A];exact⟨c,B,C⟩
  |kK f d=>cases c
  |ref id D off k=>
   simp only[aS,fg]at c⊢;cases e:ag H id with
   |none=>rw[e]at c;cases c
   |some b=>
    rw[e]at c;rw[h id b e];cases b with
    |row f E w=>exact⟨c,az,by simp[e]⟩
    |var f d|map f F=>cases c
    |aV f E w=>
     simp only at c⊢;split at c
     case isFalse=>cases c
     rename_i u;rw[aq u];cases j:bP (λx=>bP (aS H n) x) ((w.drop off).take k)with
     |none=>rw[j]at c;cases c
     |some l=>
      rw[j]at c;have t:=sP _ l j;rw[ve _ l j λa _ b o=>(m a b o).1];refine⟨c,?_,λi r=>?_⟩
      .rw[eU _ λa q=>by obtain⟨b,o⟩:=t a q;exact(m a b o).2.1]
      .rcases List.mem_cons.1 r with rfl|r
       .exact⟨_,e⟩
       .obtain⟨a,q,z⟩:=List.mem_flatMap.1 r;obtain⟨b,o⟩:=t a q;exact(m a b o).2.2 i z
  |dA id D i off=>
   simp only[aS,fg]at c⊢;cases e:ag H id with
   |none=>rw[e]at c;cases c
   |some b=>rw[e]at c;rw[h id b e];exact⟨c,az,by simp[e]⟩
  |ptr id off=>
   simp only[aS,fg]at c⊢;cases e:ag H id with
   |none=>rw[e]at c;cases c
   |some b=>
    rw[e]at c;rw[h id b e];cases b with
    |row f E w|aV f E w=>cases c
    |map f F=>
     cases F with
     |ints F=>cases c
     |strs k g=>exact⟨c,rfl,by simp[e]⟩
    |var f d=>
     simp only at c⊢;cases j:bP (aS H n) (d.drop off)with
     |none=>rw[j]at c;cases c
     |some l=>
      rw[j]at c;obtain⟨A,B,C⟩:=m _ l j;rw[A];refine⟨c,by rw[B],λi r=>?_⟩;rcases List.mem_cons.1 r with rfl|r
      .exact⟨_,e⟩
      .exact C i r
def ux{H d:Heap}(h:Sub H d)(c:Nat):∀(l:List (Nat×DV)) (k:Nat) (f:List (List PV)),dv H c k l=some f->dv d c k l=some f/\(l.map (·.2)).flatMap (fg d dep)=(l.map (·.2)).flatMap (fg H dep)/\∀id∈(l.map (·.2)).flatMap (fg H dep),∃b,ag H id=some b
 |[],_,_,a=>⟨a,rfl,az⟩
 |(i,v)::r,k,f,a=>by
   simp only[dv]at a⊢;split at a
   .rename_i e;rw[aq e];cases g:aS H dep v with
    |none=>rw[g]at a;cases a
    |some p=>
     rw[g]at a;obtain⟨n,o,q⟩:=rC h dep v p g;rw[n];simp only at a⊢;cases m:p.cellsOf with
     |none=>rw[m]at a;cases a
     |some y=>
      rw[m]at a;simp only at a⊢;split at a
      .rename_i s;rw[aq s];cases j:dv H c (k+1) r with
       |none=>rw[j]at a;cases a
       |some t=>
        rw[j]at a;obtain⟨u,w,x⟩:=ux h c r (k+1) t j;rw[u];refine⟨a,?_,λid hid=>?_⟩
        .simp only[List.map_cons,List.flatMap_cons];rw[o,w]
        .simp only[List.map_cons,List.flatMap_cons,List.mem_append]at hid;rcases hid with hid|hid
         .exact q id hid
         .exact x id hid
      .cases a
   .cases a
def E4{H j:Heap}(h:Sub H j){k:Nat}{x:DV}{l:Int}{c m:Option Int}{r:DV}{d:List Nat}(a:jx H k x l c m=some (r,d)):jx j k x l c m=some (r,d)/\∀id∈d,∃b,ag H id=some b:=by
 cases x with
 |ref id s t n=>
  simp only[jx]at a⊢;cases e:ag H id with
  |none=>rw[e]at a;cases a
  |some b=>
   rw[h id b e];rw[e]at a;refine⟨a,λi c=>?_⟩;have:i=id:=by
    cases b with
    |var f u|map f u|aV f g o=>cases a
    |row f g o=>
     simp only at a;split at a
     .split at a
      .split at a
       .simp only[ay,bY]at a;obtain⟨_,rfl⟩:=a;split at c
        .cases c
        .simpa using c
       .cases a
      .simp only[ay,bY]at a;obtain⟨_,rfl⟩:=a;cases c
     .cases a
   exact⟨b,by rw[this,e]⟩
 |p v=>
  cases v with
  |slice q o=>
   refine⟨a,λi c=>?_⟩;simp only[jx]at a;split at a
   .simp only[ay,bY]at a;obtain⟨_,rfl⟩:=a;cases c
   .cases a
  |_=>cases a
 |_=>cases a
def qT{k:aK}{H m:Heap}(n:Sub H m){f:FuncId}{l:List DV}{s:Nat}{v:DV}{t:Heap}{e:Nat}(h:jk k false f l H s=some (v,t,e)):
  ∃d,t=dp H d/\e=s/\(∀id∈d,∃b,ag H id=some b)/\∀c,jk k false f l m c=some (v,dp m d,c):=by
 simp only[jk,Bool.false_eq_true,cK]at h⊢;cases i:bP (aS H dep) l with
 |none=>rw[i]at h;cases h
 |some o=>
  have u:=sP l o i;rw[ve l o i λa _ b g=>(rC n dep a b g).1,eU l λa p=>by obtain⟨b,g⟩:=u a p;exact(rC n dep a b g).2.1];rw[i]at h;simp only at h⊢;cases w:k.pure f o with
  |none=>rw[w]at h;cases h
  |some r=>
   rw[w]at h;simp only[ay,bY]at h⊢;obtain⟨rfl,rfl,rfl⟩:=h;by_cases j:r.plain=true
   .exact⟨[],by rw[aq j];rfl,rfl,az,λc=>by simp[j,dp]⟩
   .refine⟨l.flatMap (fg H dep),by rw[ak j],rfl,λid hid=>?_,λc=>by simp[j]⟩;obtain⟨a,p,q⟩:=List.mem_flatMap.1 hid;obtain⟨b,g⟩:=u a p;exact(rC n dep a b g).2.2 id q
def MG{H d:Heap}(h:Sub H d){v:DV}{r:Nat×SM}(a:vO H v=some r):vO d v=some r:=by
 unfold vO at a⊢;split at a
 .rename_i id;cases c:ag H id with
  |none=>rw[c]at a;cases a
  |some b=>rw[c]at a;rw[h id b c];exact a
 .exact a
 .cases a
def F5{Z:aK}{d:dX}{s:St}(V:d.cls=1){v:DV}{H':Heap}{Q:Nat}(h:bf Z d s=some (v,H',Q)){H:Heap}(G:Sub s.heap H)(n:Nat):
  ∃w,H'=dp s.heap w/\Q=s.next/\(∀id∈w,∃b,ag s.heap id=some b)/\bf Z d {s with heap:=H,next:=n}=some (v,dp H w,n):=by
 have C:∀(x:DO),St.ev {s with heap:=H,next:=n} x=s.ev x:=λx=>du λ_ _=>rfl
 have M:∀(x:List DO),gH {s with heap:=H,next:=n} x=gH s x:=λx=>jE _ λ_ _=>rfl
 have R:∀(x:List (Nat×DO)),ja {s with heap:=H,next:=n} x=ja s x:=λx=>oS _ λ_ _=>rfl
 have S:∀(x:Option DO) (d:Int),tH {s with heap:=H,next:=n} x d=tH s x d:=λx d=>sD (λ_ _=>rfl) d
 have T:∀(x:Option DO),se {s with heap:=H,next:=n} x=se s x:=λx=>qo λ_ _=>rfl
 have rd:∀(id:Nat),ag s.heap id=none/\True\/(∃f e D,ag s.heap id=some (.var f D)/\ag H id=some (.var e D))\/(∃f e u g,ag s.heap id=some (.row f u g)/\ag H id=some (.row e u g))\/(∃f e I,ag s.heap id=some (.map f I)/\ag H id=some (.map e I))\/∃f e u g,ag s.heap id=some (.aV f u g)/\ag H id=some (.aV e u g):=by
  intro id;cases j:ag s.heap id with
  |none=>exact .inl ⟨rfl,trivial⟩
  |some b=>cases b with
   |var f D=>exact .inr (.inl ⟨f,f,D,rfl,G id _ j⟩)
   |row f u g=>exact .inr (.inr (.inl ⟨f,f,u,g,rfl,G id _ j⟩))
   |map f I=>exact .inr (.inr (.inr (.inl ⟨f,f,I,rfl,G id _ j⟩)))
   |aV f u g=>exact .inr (.inr (.inr (.inr ⟨f,f,u,g,rfl,G id _ j⟩)))
 cases d
 case call b f g=>
  cases b with
  |true=>simp[dX.cls]at V
  |false=>
   simp only[bf,M]at h⊢;cases F:gH s g with
   |none=>rw[F]at h;cases h
   |some l=>
    rw[F]at h;obtain⟨w,a,c,O,K⟩:=qT G h;exact⟨w,a,c,O,K _⟩
 case eM b fv g=>
  cases b with
  |true=>simp[dX.cls]at V
  |false=>
   simp only[bf,M,C]at h⊢;split at h
   .rename_i f N l E F;try rw[E,F]
    obtain⟨w,a,c,O,K⟩:=qT G h;exact⟨w,a,c,O,K _⟩
   .rename_i f N l E F;try rw[E,F]
    obtain⟨w,a,c,O,K⟩:=qT G h;exact⟨w,a,c,O,K _⟩
   .rename_i f N l E F;try rw[E,F]
    obtain⟨w,a,c,O,K⟩:=qT G h;exact⟨w,a,c,O,K _⟩
   .cases h
 case slice u x lo P mx=>
  simp only[bf,C,S,T]at h⊢;split at h
  .rename_i q l hh m a c K e4;try rw[a,c,K,e4]
   try simp only
   cases W:jx s.heap u q l hh m with
   |none=>rw[W]at h;cases h
   |some r=>
    rw[W]at h;obtain⟨r,w⟩:=r;cases h;obtain⟨A,B⟩:=E4 G W;rw[A];exact⟨w,rfl,rfl,B,rfl⟩
  .cases h
 case buildSlice z len ps=>
  simp only[bf,R]at h⊢;cases F:ja s ps with
  |none=>rw[F]at h;cases h
  |some l=>
   rw[F]at h;simp only at h⊢;cases X:dv s.heap z.length 0 l with
   |none=>rw[X]at h;cases h
   |some g=>
    rw[X]at h;cases h;obtain⟨A,B,g3⟩:=ux G _ _ _ _ X;rw[A];simp only;rw[B];exact⟨_,rfl,by first|rfl|trivial,g3,by first|rfl|trivial⟩
 case load n x=>
  simp only[bf,C]at h⊢;refine⟨[],?_⟩;simp only[dp];cases E:s.ev x with
  |none=>rw[E]at h;cases h
  |some q=>
   rw[E]at h;cases q with
   |ptr id off=>
    simp only at h⊢;rcases rd id with⟨a,c⟩|⟨f,e,D,a,c⟩|⟨f,e,u,g,a,c⟩|⟨f,e,I,a,c⟩|⟨f,e,u,g,a,c⟩<;>rw[a]at h<;>(try rw[c])
    rotate_right 2
    .cases h
    .cases h
    .cases h
    .cases n with
     |none=>simp only at h⊢;cases j:D[off]?<;>rw[j]at h<;>cases h;exact⟨rfl,rfl,az,rfl⟩
     |some n=>simp only at h⊢;cases j:ez D off n<;>rw[j]at h<;>cases h;exact⟨rfl,rfl,az,rfl⟩
    .cases h
   |p q=>
    cases q with
    |dT D=>
     cases n with
     |none=>simp only at h⊢;cases j:D[0]?<;>rw[j]at h<;>cases h;exact⟨rfl,rfl,az,rfl⟩
     |some n=>simp only at h⊢;cases j:ez D 0 n<;>rw[j]at h<;>cases h;exact⟨rfl,rfl,az,rfl⟩
    |_=>cases h
   |dA id L i off=>
    simp only at h⊢;rcases rd id with⟨a,c⟩|⟨f,e,D,a,c⟩|⟨f,e,u,g,a,c⟩|⟨f,e,I,a,c⟩|⟨f,e,u,g,a,c⟩<;>rw[a]at h<;>(try rw[c])
    rotate_right 2
    .cases h
    .simp only at h⊢;split at h
     .rename_i J;rw[aq J];cases P:g[i]? with
      |none=>rw[P]at h;cases h
      |some y=>
       rw[P]at h;cases n with
       |none=>simp only at h⊢;cases j:y[off]?<;>rw[j]at h<;>cases h;exact⟨rfl,rfl,az,rfl⟩
       |some n=>simp only at h⊢;cases j:ez y off n<;>rw[j]at h<;>cases h;exact⟨rfl,rfl,az,rfl⟩
     .cases h
    .cases h
    .cases h
    .simp only at h⊢;split at h
     .rename_i J;rw[aq J];cases P:g[i]? with
      |none=>rw[P]at h;cases h
      |some y=>
       rw[P]at h;cases n with
       |none=>simp only at h⊢;cases j:y[off]?<;>rw[j]at h<;>cases h;exact⟨rfl,rfl,az,rfl⟩
       |some n=>simp only at h⊢;cases j:ez y off n<;>rw[j]at h<;>cases h;exact⟨rfl,rfl,az,rfl⟩
     .cases h
   |_=>cases h
 case nilCheck x=>
  simp only[bf,C]at h⊢;refine⟨[],?_⟩;simp only[dp];cases E:s.ev x with
  |none=>rw[E]at h;cases h
  |some q=>
   rw[E]at h;simp only at h⊢;have Y:kF s.heap q=true->kF H q=true:=by
    intro hq;cases q with
    |ptr id off|dA id L i off=>simp only[kF]at hq⊢;rcases rd id with⟨a,c⟩|⟨f,e,D,a,c⟩|⟨f,e,u,g,a,c⟩|⟨f,e,I,a,c⟩|⟨f,e,u,g,a,c⟩<;>rw[a]at hq<;>(try rw[c])<;>simp_all
    |p v=>cases v<;>simp_all [kF]
    |_=>simp_all [kF]
   split at h
   .rename_i j;cases h;rw[aq (Y j)];exact⟨rfl,rfl,az,rfl⟩
   .cases h
 case fieldAddr off x=>
  simp only[bf,C]at h⊢;refine⟨[],?_⟩;simp only[dp];cases E:s.ev x with
  |none=>rw[E]at h;cases h
  |some q=>
   rw[E]at h;cases q with
   |ptr id o=>
    simp only at h⊢;rcases rd id with⟨a,c⟩|⟨f,e,D,a,c⟩|⟨f,e,u,g,a,c⟩|⟨f,e,I,a,c⟩|⟨f,e,u,g,a,c⟩<;>rw[a]at h<;>(try rw[c])<;>cases h
    exact⟨rfl,rfl,az,rfl⟩
   |dA id L i o=>
    simp only at h⊢;rcases rd id with⟨a,c⟩|⟨f,e,D,a,c⟩|⟨f,e,u,g,a,c⟩|⟨f,e,I,a,c⟩|⟨f,e,u,g,a,c⟩<;>rw[a]at h<;>(try rw[c])
    rotate_right 2
    .cases h
    .simp only at h⊢;split at h
     .rename_i j;cases h;rw[aq j];exact⟨rfl,rfl,az,rfl⟩
     .cases h
    .cases h
    .cases h
    .simp only at h⊢;split at h
     .rename_i j;cases h;rw[aq j];exact⟨rfl,rfl,az,rfl⟩
     .cases h
   |p v=>cases v<;>cases h;exact⟨rfl,rfl,az,rfl⟩
   |_=>cases h
 case indexAddr u x i=>
  simp only[bf,C]at h⊢;refine⟨[],?_⟩;simp only[dp];split at h
  .rename_i U g k n a c;try rw[a,c]
   try simp only
   split at h
   .rename_i h0;rw[aq h0];cases hy:g[n.toNat]? with
    |none=>rw[hy]at h;cases h
    |some y=>
     rw[hy]at h;simp only at h⊢;split at h
     .rename_i F;cases h;rw[aq F];exact⟨rfl,rfl,az,rfl⟩
     .cases h
   .cases h
  .rename_i id L off k kk n a c;try rw[a,c]
   try simp only
   rcases rd id with⟨A,B⟩|⟨f,e,D,A,B⟩|⟨f,e,u,g,A,B⟩|⟨f,e,I,A,B⟩|⟨f,e,u,g,A,B⟩<;>rw[A]at h<;>(try rw[B])
   rotate_right 2
   .cases h
   .simp only at h⊢;split at h
    .rename_i j;cases h;rw[aq j];exact⟨rfl,rfl,az,rfl⟩
    .cases h
   .cases h
   .cases h
   .simp only at h⊢;split at h
    .rename_i j;cases h;rw[aq j];exact⟨rfl,rfl,az,rfl⟩
    .cases h
  .cases h
 case dh len u x i=>
  simp only[bf,C]at h⊢;refine⟨[],?_⟩;simp only[dp];split at h
  .rename_i id off k n a c;try rw[a,c]
   try simp only
   rcases rd id with⟨A,B⟩|⟨f,e,D,A,B⟩|⟨f,e,u,g,A,B⟩|⟨f,e,I,A,B⟩|⟨f,e,u,g,A,B⟩<;>rw[A]at h<;>(try rw[B])
   rotate_right 2
   .cases h
   .cases h
   .cases h
   .simp only at h⊢;split at h
    .rename_i j;cases h;rw[aq j];exact⟨rfl,rfl,az,rfl⟩
    .cases h
   .cases h
  .cases h
 case iu o x3 x i=>
  simp only[bf,C]at h⊢;refine⟨[],?_⟩;simp only[dp];split at h
  .rename_i xv k a c;try rw[a,c]
   try simp only
   split at h
   .rename_i n' e hf;simp only[ay,bY]at h;obtain⟨rfl,rfl,rfl⟩:=h;rw[MG G hf];exact⟨rfl,rfl,az,rfl⟩
   .cases h
  .cases h
 case ll t x=>
  simp only[bf,C]at h⊢;refine⟨[],?_⟩;simp only[dp];split at h
  .rename_i xv a;try rw[a]
   try simp only
   split at h
   .rename_i p Y;obtain⟨A,B,_⟩:=rC G dep xv p Y;rw[A];simp only;split at h
    .rename_i ht;simp only[ay,bY]at h;obtain⟨rfl,rfl,rfl⟩:=h;rw[B,aq ht];exact⟨rfl,rfl,az,rfl⟩
    .cases h
   .cases h
  .cases h
 case len x=>
  simp only[bf,C]at h⊢;refine⟨[],?_⟩;simp only[dp];split at h
  .rename_i U g a;cases h;(try rw[a]);exact⟨rfl,rfl,az,rfl⟩
  .rename_i id L off n a;try rw[a]
   try simp only
   rcases rd id with⟨A,B⟩|⟨f,e,D,A,B⟩|⟨f,e,u,g,A,B⟩|⟨f,e,I,A,B⟩|⟨f,e,u,g,A,B⟩<;>rw[A]at h<;>(try rw[B])
   rotate_right 2
   .cases h
   .cases h
   .cases h
   .cases h
   .simp only at h⊢;split at h
    .rename_i j;cases h;rw[aq j];exact⟨rfl,rfl,az,rfl⟩
    .cases h
  .cases h
 all_goals(simp[dX.cls]at V)
end
end Go.Dv
