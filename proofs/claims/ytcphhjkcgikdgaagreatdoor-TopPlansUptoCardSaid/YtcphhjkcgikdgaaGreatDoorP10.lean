/- Lemmas for the law of this claim. -/
import Derived.Test.YtcphhjkcgikdgaaGreatDoorP09
set_option linter.all false
namespace Go.Dv
section
open Go.RowKit
def dj{s s':St}{x:DO}(h:∀k∈x.rd,ah s'.env k=ah s.env k):s'.ev x=s.ev x:=by
 cases x with
 |t k=>exact h k (by simp[DO.rd])
 |c v=>rfl
def jn{s s':St}:∀(a:List DO),(∀k∈a.flatMap DO.rd,ah s'.env k=ah s.env k)->gn s' a=gn s a
 |[],_=>rfl
 |x::r,h=>by
  simp only[gn];rw[dj (λk b=>h k (by simp[b])),jn r (λk b=>h k (by simp only[List.flatMap_cons,List.mem_append];exact .inr b))]
def pq{s c:St}:∀(a:List (Nat×Nat×DO)),(∀k∈a.flatMap (λp=>p.2.2.rd),ah c.env k=ah s.env k)->eP c a=eP s a
 |[],_=>rfl
 |(o,n,x)::r,h=>by
   simp only[eP];rw[dj (λk b=>h k (by simp[b])),pq r (λk b=>h k (by simp only[List.flatMap_cons,List.mem_append];exact .inr b))]
def oa{s c:St}:∀(a:List (Nat×DO)),(∀k∈a.flatMap (λp=>p.2.rd),ah c.env k=ah s.env k)->iG c a=iG s a
 |[],_=>rfl
 |(o,x)::r,h=>by
   simp only[iG];rw[dj (λk b=>h k (by simp[b])),oa r (λk b=>h k (by simp only[List.flatMap_cons,List.mem_append];exact .inr b))]
def r8{s s':St}{x:Option DO}(h:∀k∈Rw x,ah s'.env k=ah s.env k)(d:Int):sT s' x d=sT s x d:=by
 cases x with
 |none=>rfl
 |some x=>simp only[sT];rw[dj h]
def pd{s s':St}{x:Option DO}(h:∀k∈Rw x,ah s'.env k=ah s.env k):qZ s' x=qZ s x:=by
 cases x with
 |none=>rfl
 |some x=>simp only[qZ];rw[dj h]
def wD{r:aI}{d:dN}{s h:St}(g:∀k∈d.rd,ah h.env k=ah s.env k)(j:h.heap=s.heap)(m:h.next=s.next):bg r d h=bg r d s:=by
 cases d<;>simp only[dN.rd,List.mem_append]at g
 case move x|box x|load n x|nilCheck x|un o x|conv k x|fieldAddr o x|extract x i|len x|lH x|isNil x|clear z x|je z x|tX x|kS t x=>simp only[bg,j,m,dj g]
 case mH b z a x|store n a x|bin o a x|HJ o a x|qG o f a x|indexAddr n a x|cZ l n a x|index a x|makeSlice z b a x|append b z a x|copy z a x|fO o z a x|oj a x=>simp only[bg,j,m,dj (s:=s) (s':=h) (x:=a) λk e=>g k (.inl e),dj (s:=s) (s':=h) (x:=x) λk e=>g k (.inr e)]
 case jZ f p=>simp only[bg,jn p g];rw[j,m]
 case pick c a b=>
  have u:=dj (s:=s) (s':=h) (x:=c) λk e=>g k (.inl (.inl e))
  have w:=dj (s:=s) (s':=h) (x:=a) λk e=>g k (.inl (.inr e))
  have y:=dj (s:=s) (s':=h) (x:=b) λk e=>g k (.inr e)
  simp only[bg,j,m,u];split
  .rename_i t _;cases t
   .simp only[Bool.false_eq_true,cy,y]
   .simp only[bZ,w]
  .rfl
 case alloc z|fT=>simp only[bg,j,m]
 case build z q=>simp only[bg,j,m,pq q g]
 case buildSlice z l q=>simp only[bg,j,m,oa q g]
 case slice z x A B C=>
  simp only[bg,j,m,dj (s:=s) (s':=h) (x:=x) λk e=>g k (.inl (.inl (.inl e))),r8 (s:=s) (s':=h) (x:=A) λk e=>g k (.inl (.inl (.inr e))),
   pd (s:=s) (s':=h) (x:=B) λk e=>g k (.inl (.inr e)),pd (s:=s) (s':=h) (x:=C) λk e=>g k (.inr e)]
 case jr b x p=>simp only[bg,j,m,dj (s:=s) (s':=h) (x:=x) λk e=>g k (.inl e),jn (s:=s) (s':=h) p λk e=>g k (.inr e)]
 case eW f p|oR f p|call b f p=>simp only[bg,j,m,jn p g]
 case ew a x v=>simp only[bg,j,m,dj (s:=s) (s':=h) (x:=a) λk e=>g k (.inl (.inl e)),dj (s:=s) (s':=h) (x:=x) λk e=>g k (.inl (.inr e)),dj (s:=s) (s':=h) (x:=v) λk e=>g k (.inr e)]
 case eu b f p=>simp only[bg,j,m,dj (s:=s) (s':=h) (x:=f) λk e=>g k (.inl e),jn (s:=s) (s':=h) p λk e=>g k (.inr e)]
def qq(e a:Env):Prop:=∀k d,ah e k=some d->ah a k=some d
def fq{s:St}{a:Env}(b:qq s.env a){x:DO}{v:DV}(h:s.ev x=some v):St.ev {s with env:=a} x=some v:=by
 cases x with
 |t k=>exact b k v h
 |c d=>exact h
def uR{s:St}{c:Env}(d:qq s.env c):∀(e:List DO) (l:List DV),gn s e=some l->gn {s with env:=c} e=some l
 |[],l,h=>h
 |x::r,l,h=>by
  simp only[gn]at h⊢;cases a:s.ev x with
  |none=>rw[a]at h;cases h
  |some v=>cases b:gn s r with
   |none=>rw[a,b]at h;cases h
   |some q=>rw[a,b]at h;rw[fq d a,uR d r q b];exact h
def vj{s:St}{c:Env}(d:qq s.env c):∀(e:List (Nat×Nat×DO)) (l:List (Nat×Nat×DV)),eP s e=some l->eP {s with env:=c} e=some l
 |[],l,h=>h
 |(o,n,x)::r,l,h=>by
   simp only[eP]at h⊢;cases a:s.ev x with
   |none=>rw[a]at h;cases h
   |some v=>cases b:eP s r with
    |none=>rw[a,b]at h;cases h
    |some q=>rw[a,b]at h;rw[fq d a,vj d r q b];exact h
def Cw{s:St}{c:Env}(d:qq s.env c):∀(e:List (Nat×DO)) (l:List (Nat×DV)),iG s e=some l->iG {s with env:=c} e=some l
 |[],l,h=>h
 |(o,x)::r,l,h=>by
   simp only[iG]at h⊢;cases a:s.ev x with
   |none=>rw[a]at h;cases h
   |some v=>cases b:iG s r with
    |none=>rw[a,b]at h;cases h
    |some q=>rw[a,b]at h;rw[fq d a,Cw d r q b];exact h
def OT{s:St}{b:Env}(c:qq s.env b){x:Option DO}{d v:Int}(h:sT s x d=some v):sT {s with env:=b} x d=some v:=by
 cases x with
 |none=>exact h
 |some x=>
  simp only[sT]at h⊢;cases a:s.ev x with
  |none=>rw[a]at h;cases h
  |some u=>rw[a]at h;rw[fq c a];exact h
def Fk{s:St}{b:Env}(c:qq s.env b){x:Option DO}{v:Option Int}(h:qZ s x=some v):qZ {s with env:=b} x=some v:=by
 cases x with
 |none=>exact h
 |some x=>
  simp only[qZ]at h⊢;cases a:s.ev x with
  |none=>rw[a]at h;cases h
  |some u=>rw[a]at h;rw[fq c a];exact h
def Oz{H:aI}{d:dN}{s:St}{I:Env}(g:qq s.env I){r:DV×Heap×Nat}(h:bg H d s=some r):bg H d {s with env:=I}=some r:=by
 cases d
 case move x|box x|load n x|nilCheck x|un o x|conv k x|fieldAddr o x|extract x i|len x|lH x|isNil x|clear z x|tX x|kS t x|je z x=>
  simp only[bg]at h⊢;cases j:s.ev x with
  |none=>rw[j]at h;cases h
  |some v=>rw[j]at h;rw[fq g j];exact h
 case store n a x|bin o a x|HJ o a x|qG o f a x|indexAddr n a x|cZ l n a x|index a x|makeSlice z b a x|append b z a x|copy z a x=>
  simp only[bg]at h⊢;cases w:s.ev a with
  |none=>rw[w]at h;cases h
  |some u=>cases j:s.ev x with
   |none=>rw[w,j]at h;first|(cases h;done)|(split at h<;>first|(cases h;done)|simp_all)
   |some v=>rw[w,j]at h;rw[fq g w,fq g j];exact h
 case alloc z|fT=>exact h
 case ew a x y=>
  simp only[bg]at h⊢;split at h
  .rename_i B C J;rw[fq g B,fq g C,fq g J];exact h
  .cases h
 case oj a x|fO o z a x=>
  simp only[bg]at h⊢;split at h
  .rename_i B C;rw[fq g B,fq g C];exact h
  .cases h
 case oR f q|jZ f q|eW f q|call b f q=>
  simp only[bg]at h⊢;cases j:gn s q with
  |none=>rw[j]at h;cases h
  |some v=>rw[j]at h;rw[uR g _ _ j];exact h
 case pick c a b=>
  simp only[bg]at h⊢;cases D:s.ev c with
  |none=>rw[D]at h;cases h
  |some v=>
   rw[D]at h;rw[fq g D];revert h;split
   .rename_i t e;cases e;intro h;cases j:s.ev (if t then a else b)with
    |none=>rw[j]at h;cases h
    |some u=>rw[j]at h;rw[fq g j];exact h
   .intro h;cases h
 case build z E=>
  simp only[bg]at h⊢;cases j:eP s E with
  |none=>rw[j]at h;cases h
  |some v=>rw[j]at h;rw[vj g _ _ j];exact h
 case buildSlice z l E=>
  simp only[bg]at h⊢;cases j:iG s E with
  |none=>rw[j]at h;cases h
  |some v=>rw[j]at h;rw[Cw g _ _ j];exact h
 case slice z x K L M=>
  simp only[bg]at h⊢;cases m:s.ev x with
  |none=>rw[m]at h;cases h
  |some v1=>cases p:sT s K 0 with
   |none=>rw[m,p]at h;cases h
   |some F=>cases A:qZ s L with
    |none=>rw[m,p,A]at h;cases h
    |some N=>cases G:qZ s M with
     |none=>rw[m,p,A,G]at h;cases h
     |some v4=>rw[m,p,A,G]at h;rw[fq g m,OT g p,Fk g A,Fk g G];exact h
 case jr b x q=>
  simp only[bg]at h⊢;cases m:s.ev x with
  |none=>rw[m]at h;cases h
  |some v1=>cases p:gn s q with
   |none=>rw[m,p]at h;first|(cases h;done)|(split at h<;>first|(cases h;done)|simp_all)
   |some F=>rw[m,p]at h;rw[fq g m,uR g _ _ p];exact h
 case mH b z a x=>
  simp only[bg]at h⊢;cases m:s.ev a with
  |none=>rw[m]at h;cases h
  |some v1=>cases p:s.ev x with
   |none=>rw[m,p]at h;cases h
   |some F=>rw[m,p]at h;rw[fq g m,fq g p];exact h
 case eu b f q=>
  simp only[bg]at h⊢;cases m:s.ev f with
  |none=>rw[m]at h;cases h
  |some v1=>cases p:gn s q with
   |none=>rw[m,p]at h;first|(cases h;done)|(split at h<;>first|(cases h;done)|simp_all)
   |some F=>rw[m,p]at h;rw[fq g m,uR g _ _ p];exact h
def U2{g:Option (Nat×Bool)}{e c:Env}(d:qq e c){b:Bool}(h:gd g e=some b):gd g c=some b:=by
 cases g with
 |none=>exact h
 |some p=>
  obtain⟨k,w⟩:=p;simp only[gd]at h⊢;cases a:ah e k with
  |none=>rw[a]at h;cases h
  |some v=>rw[a]at h;rw[d _ _ a];exact h
def E6{e a:Env}(b:qq e a)(k:Option Nat)(v:DV):qq (dz e k v) (dz a k v):=by
 intro i d h;cases k with
 |none=>exact b i d h
 |some k=>
  simp only[dz]at h⊢;rw[jQ]at h⊢;split at h
  .rename_i e;rw[aq e];exact h
  .rename_i e;rw[an e];exact b i d h
def LR{c:aI}{o:ai}{s d:St}{e:Env}(a:qq s.env e)(h:cM c o s=some d):∃i,cM c o {s with env:=e}=some {d with env:=i}/\qq d.env i:=by
 unfold cM at h⊢;cases f:gd o.guard s.env with
 |none=>rw[f]at h;cases h
 |some b=>
  rw[f]at h;rw[show gd o.guard ({s with env:=e}:St).env=some b from U2 a f];cases b with
  |false=>cases h;exact⟨_,rfl,E6 a _ _⟩
  |true=>
   simp only at h⊢;cases g:bg c o.op s with
   |none=>rw[g]at h;cases h
   |some r=>
    rw[g]at h;rw[Oz a g];cases h;exact⟨_,rfl,E6 a _ _⟩
def AS{e:aI}:∀(l:List (ai×List Nat)) (s a:St) (b:Env),qq s.env b->ox e l s=some a->∃c,bR e (l.map (·.1)) {s with env:=b}=some {a with env:=c}/\qq a.env c
 |[],s,a,b,f,h=>by simp only[ox,aw]at h;subst h;exact⟨b,rfl,f⟩
 |(o,k)::r,s,a,b,f,h=>by
   simp only[ox]at h;cases g:cM e o s with
   |none=>rw[g]at h;cases h
   |some j=>
    rw[g]at h;obtain⟨c,m,n⟩:=LR f g;obtain⟨p,q,t⟩:=AS r {j with env:=cT j.env k} a c (λi d u=>n i d (gQ k _ _ _ u)) h;exact⟨p,by simp only[List.map_cons,bR,m];exact q,t⟩
def LW{l:aI}{d:dN}{s:St}(m:d.cls=0){v:DV}{n:Heap}{c:Nat}(h:bg l d s=some (v,n,c)):n=s.heap/\c=s.next/\∀(H:Heap) (a:Nat),bg l d {s with heap:=H,next:=a}=some (v,H,a):=by
 have k:∀(H:Heap) (a:Nat) (x:DO),St.ev {s with heap:=H,next:=a} x=s.ev x:=λH a x=>dj λ_ _=>rfl
 have e:∀(H:Heap) (a:Nat) (x:List DO),gn {s with heap:=H,next:=a} x=gn s x:=λH a x=>jn _ λ_ _=>rfl
 have g:∀(H:Heap) (a:Nat) (x:List (Nat×Nat×DO)),eP {s with heap:=H,next:=a} x=eP s x:=λH a x=>pq _ λ_ _=>rfl
 have i:∀(H:Heap) (a:Nat) (x:Option DO) (d:Int),sT {s with heap:=H,next:=a} x d=sT s x d:=λH a x d=>r8 (λ_ _=>rfl) d
 have j:∀(H:Heap) (a:Nat) (x:Option DO),qZ {s with heap:=H,next:=a} x=qZ s x:=λH a x=>pd λ_ _=>rfl
 cases d
 case call b f o|eu b f o=>cases b<;>simp[dN.cls]at m
 all_goals(try(simp[dN.cls]at m;done))
 all_goals(simp only[bg]at h;simp only[bg,k,e,g,i,j])
 all_goals
  (repeat'(split at h))<;>first|(cases h;done)|(cases h;refine⟨rfl,rfl,λH a=>?_⟩;simp_all)
def ca.strip:ca->ca
 | .var _ c=>.var false c
 | .row _ a b=>.row false a b
 | .map _ d=>.map false d
 | .bh _ a b=>.bh false a b
def pF(H a:Heap):Prop:=∀id,(ah a id).map ca.strip=(ah H id).map ca.strip
def pF.var{H a:Heap}(h:pF H a){id:Nat}{f:Bool}{c:List DV}(e:ah H id=some (.var f c)):∃g,ah a id=some (.var g c):=by
 have:=h id;rw[e]at this;cases d:ah a id with
 |none=>rw[d]at this;cases this
 |some b=>rw[d]at this;cases b<;>simp[ca.strip]at this;subst this;exact⟨_,rfl⟩
def pF.row{H a:Heap}(h:pF H a){id:Nat}{f:Bool}{c:Nat}{d:List (List PV)}(g:ah H id=some (.row f c d)):∃i,ah a id=some (.row i c d):=by
 have:=h id;rw[g]at this;cases e:ah a id with
 |none=>rw[e]at this;cases this
 |some b=>rw[e]at this;cases b<;>simp[ca.strip]at this;obtain⟨rfl,rfl⟩:=this;exact⟨_,rfl⟩
def pF.map{H a:Heap}(h:pF H a){id:Nat}{f:Bool}{c:MC}(e:ah H id=some (.map f c)):∃g,ah a id=some (.map g c):=by
 have:=h id;rw[e]at this;cases d:ah a id with
 |none=>rw[d]at this;cases this
 |some b=>rw[d]at this;cases b<;>simp[ca.strip]at this;subst this;exact⟨_,rfl⟩
def pF.bh{H a:Heap}(h:pF H a){id:Nat}{f:Bool}{c:Nat}{d:List (List DV)}(g:ah H id=some (.bh f c d)):∃i,ah a id=some (.bh i c d):=by
 have:=h id;rw[g]at this;cases e:ah a id with
 |none=>rw[e]at this;cases this
 |some b=>rw[e]at this;cases b<;>simp[ca.strip]at this;obtain⟨rfl,rfl⟩:=this;exact⟨_,rfl⟩
def pF.none{H a:Heap}(h:pF H a){id:Nat}(c:ah H id=none):ah a id=none:=by
 have:=h id;rw[c]at this;cases d:ah a id with
 |none=>rfl
 |some b=>rw[d]at this;cases this
def pF.symm{H a:Heap}(h:pF H a):pF a H:=λid=>(h id).symm
def DL(a:List Nat):∀H,pF H (cY H a):=by
 induction a with
 |nil=>exact λH id=>rfl
 |cons i r c=>
  intro H id;rw[cY,c,rM];split
  .cases ah H id with
   |none=>rfl
   |some b=>cases b<;>rfl
  .rfl
def jP{b c:Type}{f g:b->Option c}:∀(l:List b),(∀a∈l,f a=g a)->cl f l=cl g l
 |[],_=>rfl
 |a::r,h=>by
  simp only[cl];rw[h a aB,jP r λx d=>h x (by simp[d])]
def eD{b c:Type}{f g:b->List c}:∀(l:List b),(∀a∈l,f a=g a)->l.flatMap f=l.flatMap g
 |[],_=>rfl
 |a::r,h=>by
  simp only[List.flatMap_cons];rw[h a aB,eD r λx d=>h x (by simp[d])]
def Dp{H s:Heap}(h:pF H s):∀(n:Nat) (v:DV),bE s n v=bE H n v:=by
 intro n;induction n with
 |zero=>intro v;rfl
 |succ n o=>
  intro v;cases v with
  |p|kh f j=>rfl
  |agg j|tuple j|func f j=>simp only[bE];rw[jP j λa _=>o a]
  |ref id q off k=>
   simp only[bE];cases c:ah H id with
   |none=>rw[h.none c]
   |some b=>cases b with
    |var f j=>obtain⟨g,e⟩:=h.var c;rw[e]
    |row f l m=>obtain⟨g,e⟩:=h.row c;rw[e]
    |map f r=>obtain⟨g,e⟩:=h.map c;rw[e]
    |bh f l m=>obtain⟨g,e⟩:=h.bh c;rw[e];simp only;rw[jP _ λa _=>jP a λd _=>o d]
  |ptr id off=>
   simp only[bE];cases c:ah H id with
   |none=>rw[h.none c]
   |some b=>cases b with
    |var f j=>obtain⟨g,e⟩:=h.var c;rw[e];simp only;rw[jP _ λa _=>o a]
    |row f l m=>obtain⟨g,e⟩:=h.row c;rw[e]
    |map f r=>obtain⟨g,e⟩:=h.map c;rw[e];cases r<;>rfl
    |bh f l m=>obtain⟨g,e⟩:=h.bh c;rw[e]
  |du id q i off=>
   simp only[bE];cases c:ah H id with
   |none=>rw[h.none c]
   |some b=>cases b with
    |var f j=>obtain⟨g,e⟩:=h.var c;rw[e]
    |row f l m=>obtain⟨g,e⟩:=h.row c;rw[e]
    |map f r=>obtain⟨g,e⟩:=h.map c;rw[e]
    |bh f l m=>obtain⟨g,e⟩:=h.bh c;rw[e]
def DP{H r:Heap}(h:pF H r):∀(n:Nat) (v:DV),eR r n v=eR H n v:=by
 intro n;induction n with
 |zero=>intro v;rfl
 |succ n l=>
  intro v;cases v with
  |p|kh f j|du id m i off=>rfl
  |agg j|tuple j|func f j=>simp only[eR];rw[eD j λa _=>l a]
  |ref id m off k=>
   simp only[eR];cases c:ah H id with
   |none=>rw[h.none c]
   |some b=>cases b with
    |var f j=>obtain⟨g,e⟩:=h.var c;rw[e]
    |row f o q=>obtain⟨g,e⟩:=h.row c;rw[e]
    |map f s=>obtain⟨g,e⟩:=h.map c;rw[e]
    |bh f o q=>obtain⟨g,e⟩:=h.bh c;rw[e];simp only;rw[eD _ λa _=>eD a λd _=>l d]
  |ptr id off=>
   simp only[eR];cases c:ah H id with
   |none=>rw[h.none c]
   |some b=>cases b with
    |var f j=>obtain⟨g,e⟩:=h.var c;rw[e];simp only;rw[eD _ λa _=>l a]
    |row f o q=>obtain⟨g,e⟩:=h.row c;rw[e]
    |map f s=>obtain⟨g,e⟩:=h.map c;rw[e]
    |bh f o q=>obtain⟨g,e⟩:=h.bh c;rw[e]
def uY{H b:Heap}(h:pF H b)(a:Nat):∀(l:List (Nat×DV)) (k:Nat),di b a k l=di H a k l
 |[],_=>rfl
 |(i,v)::r,k=>by
   simp only[di];rw[Dp h,uY h a r (k+1)]
def HI{H g:Heap}(h:pF H g)(c:Nat)(x:DV)(i:Int)(j k:Option Int):jb g c x i j k=jb H c x i j k:=by
 cases x with
 |ref id l m n=>
  simp only[jb];cases a:ah H id with
  |none=>rw[h.none a]
  |some b=>cases b with
   |var f q=>obtain⟨d,e⟩:=h.var a;rw[e]
   |row f c o=>obtain⟨d,e⟩:=h.row a;rw[e]
   |map f r=>obtain⟨d,e⟩:=h.map a;rw[e]
   |bh f c o=>obtain⟨d,e⟩:=h.bh a;rw[e]
 |p v=>cases v<;>rfl
 |_=>rfl
def si{g:aI}{H i:Heap}(j:pF H i){f:FuncId}{l:List DV}{k:Nat}{v:DV}{m:Heap}{c:Nat}(h:iU g false f l H k=some (v,m,c)):
  ∃d,m=cY H d/\c=k/\∀b,iU g false f l i b=some (v,cY i d,b):=by
 simp only[iU,Bool.false_eq_true,cy]at h⊢;rw[jP l λa _=>Dp j dep a,eD l λa _=>DP j dep a];cases n:cl (bE H dep) l with
 |none=>rw[n]at h;cases h
 |some p=>
  rw[n]at h;simp only at h⊢;cases o:g.pure f p with
  |none=>rw[o]at h;cases h
  |some r=>
   rw[o]at h;simp only[aw,bQ]at h⊢;obtain⟨rfl,rfl,rfl⟩:=h;by_cases e:r.plain=true
   .exact⟨[],by rw[aq e];rfl,rfl,λb=>by simp[e,cY]⟩
   .exact⟨l.flatMap (eR H dep),by rw[an e],rfl,λb=>by simp[e]⟩
def Fs{H d:Heap}(h:pF H d)(v:DV):tV d v=tV H v:=by
 unfold tV;split
 .rename_i id;cases a:ah H id with
  |none=>rw[h.none a]
  |some b=>cases b with
   |var f k=>obtain⟨c,e⟩:=h.var a;rw[e]
   |row f g i=>obtain⟨c,e⟩:=h.row a;rw[e]
   |map f j=>obtain⟨c,e⟩:=h.map a;rw[e];cases j<;>rfl
   |bh f g i=>obtain⟨c,e⟩:=h.bh a;rw[e]
 .rfl
 .rfl
def De{Z:aI}{d:dN}{s:St}(W:d.cls=1){v:DV}{H':Heap}{R:Nat}(h:bg Z d s=some (v,H',R)){H:Heap}(G:pF s.heap H):
  ∃B,H'=cY s.heap B/\R=s.next/\bg Z d {s with heap:=H}=some (v,cY H B,s.next):=by
 have C:∀(x:DO),St.ev {s with heap:=H} x=s.ev x:=λx=>dj λ_ _=>rfl
 have O:∀(x:List DO),gn {s with heap:=H} x=gn s x:=λx=>jn _ λ_ _=>rfl
 have S:∀(x:List (Nat×DO)),iG {s with heap:=H} x=iG s x:=λx=>oa _ λ_ _=>rfl
 have T:∀(x:Option DO) (d:Int),sT {s with heap:=H} x d=sT s x d:=λx d=>r8 (λ_ _=>rfl) d
 have U:∀(x:Option DO),qZ {s with heap:=H} x=qZ s x:=λx=>pd λ_ _=>rfl
 have rd:∀(id:Nat),ah s.heap id=none/\ah H id=none\/(∃f g D,ah s.heap id=some (.var f D)/\ah H id=some (.var g D))\/(∃f g A w,ah s.heap id=some (.row f A w)/\ah H id=some (.row g A w))\/(∃f g K,ah s.heap id=some (.map f K)/\ah H id=some (.map g K))\/∃f g A w,ah s.heap id=some (.bh f A w)/\ah H id=some (.bh g A w):=by
  intro id;cases u:ah s.heap id with
  |none=>exact .inl ⟨rfl,G.none u⟩
  |some b=>cases b with
   |var f D=>obtain⟨g,e⟩:=G.var u;exact .inr (.inl ⟨f,g,D,rfl,e⟩)
   |row f A w=>obtain⟨g,e⟩:=G.row u;exact .inr (.inr (.inl ⟨f,g,A,w,rfl,e⟩))
   |map f K=>obtain⟨g,e⟩:=G.map u;exact .inr (.inr (.inr (.inl ⟨f,g,K,rfl,e⟩)))
   |bh f A w=>obtain⟨g,e⟩:=G.bh u;exact .inr (.inr (.inr (.inr ⟨f,g,A,w,rfl,e⟩)))
 cases d
 case call b f w=>
  cases b with
  |true=>simp[dN.cls]at W
  |false=>
   simp only[bg,O]at h⊢;cases J:gn s w with
   |none=>rw[J]at h;cases h
   |some l=>
    rw[J]at h;obtain⟨B,c,j,M⟩:=si G h;exact⟨B,c,j,M _⟩
 case eu b fv w=>
  cases b with
  |true=>simp[dN.cls]at W
  |false=>
   simp only[bg,O,C]at h⊢;split at h
   .rename_i f P l I J;try rw[I,J]
    obtain⟨B,c,j,M⟩:=si G h;exact⟨B,c,j,M _⟩
   .rename_i f P l I J;try rw[I,J]
    obtain⟨B,c,j,M⟩:=si G h;exact⟨B,c,j,M _⟩
   .rename_i f P l I J;try rw[I,J]
    obtain⟨B,c,j,M⟩:=si G h;exact⟨B,c,j,M _⟩
   .cases h
 case slice A x lo Q mx=>
  simp only[bg,C,T,U]at h⊢;split at h
  .rename_i q l hh m c j M e4;try rw[c,j,M,e4]
   try simp only
   rw[HI G];cases hr:jb s.heap A q l hh m with
   |none=>rw[hr]at h;cases h
   |some r=>
    rw[hr]at h;obtain⟨r,B⟩:=r;cases h;exact⟨B,rfl,rfl,rfl⟩
  .cases h
 case buildSlice z len ps=>
  simp only[bg,S]at h⊢;cases J:iG s ps with
  |none=>rw[J]at h;cases h
  |some l=>
   rw[J]at h;simp only at h⊢;rw[uY G,eD _ λa _=>DP G dep a];cases hx:di s.heap z.length 0 l with
   |none=>rw[hx]at h;cases h
   |some w=>
    rw[hx]at h;cases h;exact⟨_,rfl,rfl,rfl⟩
 case load n x=>
  simp only[bg,C]at h⊢;refine⟨[],?_⟩;simp only[cY];cases I:s.ev x with
  |none=>rw[I]at h;cases h
  |some q=>
   rw[I]at h;cases q with
   |ptr id off=>
    simp only at h⊢;rcases rd id with⟨c,j⟩|⟨f,g,D,c,j⟩|⟨f,g,A,w,c,j⟩|⟨f,g,K,c,j⟩|⟨f,g,A,w,c,j⟩<;>rw[c]at h<;>rw[j]
    rotate_right 2
    .cases h
    .cases h
    .cases h
    .cases n with
     |none=>simp only at h⊢;cases u:D[off]?<;>rw[u]at h<;>cases h;exact⟨rfl,rfl,rfl⟩
     |some n=>simp only at h⊢;cases u:dR D off n<;>rw[u]at h<;>cases h;exact⟨rfl,rfl,rfl⟩
    .cases h
   |p q=>
    cases q with
    |eN D=>
     cases n with
     |none=>simp only at h⊢;cases u:D[0]?<;>rw[u]at h<;>cases h;exact⟨rfl,rfl,rfl⟩
     |some n=>simp only at h⊢;cases u:dR D 0 n<;>rw[u]at h<;>cases h;exact⟨rfl,rfl,rfl⟩
    |_=>cases h
   |du id N i off=>
    simp only at h⊢;rcases rd id with⟨c,j⟩|⟨f,g,D,c,j⟩|⟨f,g,A,w,c,j⟩|⟨f,g,K,c,j⟩|⟨f,g,A,w,c,j⟩<;>rw[c]at h<;>rw[j]
    rotate_right 2
    .cases h
    .simp only at h⊢;split at h
     .rename_i L;rw[aq L];cases Q:w[i]? with
      |none=>rw[Q]at h;cases h
      |some y=>
       rw[Q]at h;cases n with
       |none=>simp only at h⊢;cases u:y[off]?<;>rw[u]at h<;>cases h;exact⟨rfl,rfl,rfl⟩
       |some n=>simp only at h⊢;cases u:dR y off n<;>rw[u]at h<;>cases h;exact⟨rfl,rfl,rfl⟩
     .cases h
    .cases h
    .cases h
    .simp only at h⊢;split at h
     .rename_i L;rw[aq L];cases Q:w[i]? with
      |none=>rw[Q]at h;cases h
      |some y=>
       rw[Q]at h;cases n with
       |none=>simp only at h⊢;cases u:y[off]?<;>rw[u]at h<;>cases h;exact⟨rfl,rfl,rfl⟩
       |some n=>simp only at h⊢;cases u:dR y off n<;>rw[u]at h<;>cases h;exact⟨rfl,rfl,rfl⟩
     .cases h
   |_=>cases h
 case nilCheck x=>
  simp only[bg,C]at h⊢;refine⟨[],?_⟩;simp only[cY];cases I:s.ev x with
  |none=>rw[I]at h;cases h
  |some q=>
   rw[I]at h;simp only at h⊢;have X:kd H q=kd s.heap q:=by
    cases q with
    |ptr id off|du id N i off=>simp only[kd];rcases rd id with⟨c,j⟩|⟨f,g,D,c,j⟩|⟨f,g,A,w,c,j⟩|⟨f,g,K,c,j⟩|⟨f,g,A,w,c,j⟩<;>rw[c,j]
    |p v=>cases v<;>rfl
    |_=>rfl
   rw[X];split at h
   .rename_i u;cases h;rw[aq u];exact⟨rfl,rfl,rfl⟩
   .cases h
 case fieldAddr off x=>
  simp only[bg,C]at h⊢;refine⟨[],?_⟩;simp only[cY];cases I:s.ev x with
  |none=>rw[I]at h;cases h
  |some q=>
   rw[I]at h;cases q with
   |ptr id o=>
    simp only at h⊢;rcases rd id with⟨c,j⟩|⟨f,g,D,c,j⟩|⟨f,g,A,w,c,j⟩|⟨f,g,K,c,j⟩|⟨f,g,A,w,c,j⟩<;>rw[c]at h<;>rw[j]<;>cases h
    exact⟨rfl,rfl,rfl⟩
   |du id N i o=>
    simp only at h⊢;rcases rd id with⟨c,j⟩|⟨f,g,D,c,j⟩|⟨f,g,A,w,c,j⟩|⟨f,g,K,c,j⟩|⟨f,g,A,w,c,j⟩<;>rw[c]at h<;>rw[j]
    rotate_right 2
    .cases h
    .simp only at h⊢;split at h
     .rename_i u;cases h;rw[aq u];exact⟨rfl,rfl,rfl⟩
     .cases h
    .cases h
    .cases h
    .simp only at h⊢;split at h
     .rename_i u;cases h;rw[aq u];exact⟨rfl,rfl,rfl⟩
     .cases h
   |p v=>cases v<;>cases h;exact⟨rfl,rfl,rfl⟩
   |_=>cases h
 case indexAddr A x i=>
  simp only[bg,C]at h⊢;refine⟨[],?_⟩;simp only[cY];split at h
  .rename_i V w k n c j;try rw[c,j]
   try simp only
   split at h
   .rename_i h0;rw[aq h0];cases hy:w[n.toNat]? with
    |none=>rw[hy]at h;cases h
    |some y=>
     rw[hy]at h;simp only at h⊢;split at h
     .rename_i J;cases h;rw[aq J];exact⟨rfl,rfl,rfl⟩
     .cases h
   .cases h
  .rename_i id N off k kk n c j;try rw[c,j]
   try simp only
   rcases rd id with⟨E,F⟩|⟨f,g,D,E,F⟩|⟨f,g,A,w,E,F⟩|⟨f,g,K,E,F⟩|⟨f,g,A,w,E,F⟩<;>rw[E]at h<;>rw[F]
   rotate_right 2
   .cases h
   .simp only at h⊢;split at h
    .rename_i u;cases h;rw[aq u];exact⟨rfl,rfl,rfl⟩
    .cases h
   .cases h
   .cases h
   .simp only at h⊢;split at h
    .rename_i u;cases h;rw[aq u];exact⟨rfl,rfl,rfl⟩
    .cases h
  .cases h
 case cZ len A x i=>
  simp only[bg,C]at h⊢;refine⟨[],?_⟩;simp only[cY];split at h
  .rename_i id off k n c j;try rw[c,j]
   try simp only
   rcases rd id with⟨E,F⟩|⟨f,g,D,E,F⟩|⟨f,g,A,w,E,F⟩|⟨f,g,K,E,F⟩|⟨f,g,A,w,E,F⟩<;>rw[E]at h<;>rw[F]
   rotate_right 2
   .cases h
   .cases h
   .cases h
   .simp only at h⊢;split at h
    .rename_i u;cases h;rw[aq u];exact⟨rfl,rfl,rfl⟩
    .cases h
   .cases h
  .cases h
 case fO o x4 x i=>
  simp only[bg,C]at h⊢;refine⟨[],?_⟩;simp only[cY];split at h
  .rename_i xv k c j;try rw[c,j]
   try simp only
   rw[Fs G];split at h
   .rename_i n' g Y;simp only[aw,bQ]at h;obtain⟨rfl,rfl,rfl⟩:=h
    (try rw[Y])
    exact⟨rfl,rfl,rfl⟩
   .cases h
  .cases h
 case tX x=>
  simp only[bg,C]at h⊢;refine⟨[],?_⟩;simp only[cY];split at h
  .rename_i xv c;try rw[c]
   try simp only
   rw[Fs G];split at h
   .rename_i n' g Y;simp only[aw,bQ]at h;obtain⟨rfl,rfl,rfl⟩:=h
    (try rw[Y])
    exact⟨rfl,rfl,rfl⟩
   .cases h
  .cases h
 case kS t x=>
  simp only[bg,C]at h⊢;refine⟨[],?_⟩;simp only[cY];split at h
  .rename_i xv c;try rw[c]
   try simp only
   rw[Dp G,DP G];split at h
   .rename_i p X;split at h
    .rename_i ht;simp only[aw,bQ]at h;obtain⟨rfl,rfl,rfl⟩:=h
     (try rw[X])
     (try simp only[ht,bZ])
     first|exact⟨rfl,rfl,rfl⟩|exact⟨trivial,trivial,aB⟩
    .cases h
   .cases h
  .cases h
 case len x=>
  simp only[bg,C]at h⊢;refine⟨[],?_⟩;simp only[cY];split at h
  .rename_i V w c;cases h;(try rw[c]);exact⟨rfl,rfl,rfl⟩
  .rename_i id N off n c;try rw[c]
   try simp only
   rcases rd id with⟨E,F⟩|⟨f,g,D,E,F⟩|⟨f,g,A,w,E,F⟩|⟨f,g,K,E,F⟩|⟨f,g,A,w,E,F⟩<;>rw[E]at h<;>rw[F]
   rotate_right 2
   .cases h
   .cases h
   .cases h
   .cases h
   .simp only at h⊢;split at h
    .rename_i u;cases h;rw[aq u];exact⟨rfl,rfl,rfl⟩
    .cases h
  .cases h
 all_goals(simp[dN.cls]at W)
def Sub(H a:Heap):Prop:=∀id b,ah H id=some b->ah a id=some b
def uH{e i:Type}{f g:e->Option i}:∀(l:List e) (r:List i),cl f l=some r->(∀a∈l,∀b,f a=some b->g a=some b)->cl g l=some r
 |[],r,h,_=>h
 |a::l,r,h,k=>by
  simp only[cl]at h⊢;cases c:f a with
  |none=>rw[c]at h;cases h
  |some b=>
   rw[c]at h;rw[k a aB b c];cases d:cl f l with
   |none=>rw[d]at h;cases h
   |some j=>
    rw[d]at h;rw[uH l j d λx m=>k x (by simp[m])];exact h
def rJ{e g:Type}{f:e->Option g}:∀(l:List e) (r:List g),cl f l=some r->∀a∈l,∃b,f a=some b
 |[],r,_,a,c=>by cases c
 |x::l,r,h,a,c=>by
  simp only[cl]at h;cases d:f x with
  |none=>rw[d]at h;cases h
  |some b=>
   rw[d]at h;rcases List.mem_cons.1 c with rfl|c
   .exact⟨b,d⟩
   .cases i:cl f l with
    |none=>rw[i]at h;cases h
    |some j=>exact rJ l j i a c
def rC{H s:Heap}(h:Sub H s):∀(n:Nat) (v:DV) (p:PV),bE H n v=some p->bE s n v=some p/\eR s n v=eR H n v/\∀id∈eR H n v,∃b,ah H id=some b:=by
 intro n;induction n with
 |zero=>intro v p c;cases c
 |succ n y=>
  have m:∀(d:List DV) (l:List PV),cl (bE H n) d=some l->cl (bE s n) d=some l/\d.flatMap (eR s n)=d.flatMap (eR H n)/\∀id∈d.flatMap (eR H n),∃b,ah H id=some b:=by
   intro d l j;have t:=rJ d l j;refine⟨uH d l j λa _ b o=>(y a b o).1,eD d λa q=>?_,λid hid=>?_⟩
   .obtain⟨b,o⟩:=t a q;exact(y a b o).2.1
   .obtain⟨a,q,z⟩:=List.mem_flatMap.1 hid;obtain⟨b,o⟩:=t a q;exact(y a b o).2.2 id z
  intro v p c;cases v with
  |p=>exact⟨c,rfl,by simp[eR]⟩
  |agg d|tuple d|func f d=>
   simp only[bE,eR]at c⊢;cases j:cl (bE H n) d with
   |none=>rw[j]at c;cases c
   |some l=>rw[j]at c;obtain⟨A,B,C⟩:=m d l j;rw[A];exact⟨c,B,C⟩
  |kh f d=>cases c
  |ref id D off k=>
   simp only[bE,eR]at c⊢;cases e:ah H id with
   |none=>rw[e]at c;cases c
   |some b=>
    rw[e]at c;rw[h id b e];cases b with
    |row f E w=>exact⟨c,aB,by simp[e]⟩
    |var f d|map f F=>cases c
    |bh f E w=>
     simp only at c⊢;split at c
     case isFalse=>cases c
     rename_i u;rw[aq u];cases j:cl (λx=>cl (bE H n) x) ((w.drop off).take k)with
     |none=>rw[j]at c;cases c
     |some l=>
      rw[j]at c;have t:=rJ _ l j;rw[uH _ l j λa _ b o=>(m a b o).1];refine⟨c,?_,λi r=>?_⟩
      .rw[eD _ λa q=>by obtain⟨b,o⟩:=t a q;exact(m a b o).2.1]
      .rcases List.mem_cons.1 r with rfl|r
       .exact⟨_,e⟩
       .obtain⟨a,q,z⟩:=List.mem_flatMap.1 r;obtain⟨b,o⟩:=t a q;exact(m a b o).2.2 i z
  |du id D i off=>
   simp only[bE,eR]at c⊢;cases e:ah H id with
   |none=>rw[e]at c;cases c
   |some b=>rw[e]at c;rw[h id b e];exact⟨c,aB,by simp[e]⟩
  |ptr id off=>
   simp only[bE,eR]at c⊢;cases e:ah H id with
   |none=>rw[e]at c;cases c
   |some b=>
    rw[e]at c;rw[h id b e];cases b with
    |row f E w|bh f E w=>cases c
    |map f F=>
     cases F with
     |ints F=>cases c
     |strs k g=>exact⟨c,rfl,by simp[e]⟩
    |var f d=>
     simp only at c⊢;cases j:cl (bE H n) (d.drop off)with
     |none=>rw[j]at c;cases c
     |some l=>
      rw[j]at c;obtain⟨A,B,C⟩:=m _ l j;rw[A];refine⟨c,by rw[B],λi r=>?_⟩;rcases List.mem_cons.1 r with rfl|r
      .exact⟨_,e⟩
      .exact C i r
def uj{H d:Heap}(h:Sub H d)(c:Nat):∀(l:List (Nat×DV)) (k:Nat) (f:List (List PV)),di H c k l=some f->di d c k l=some f/\(l.map (·.2)).flatMap (eR d dep)=(l.map (·.2)).flatMap (eR H dep)/\∀id∈(l.map (·.2)).flatMap (eR H dep),∃b,ah H id=some b
 |[],_,_,a=>⟨a,rfl,aB⟩
 |(i,v)::r,k,f,a=>by
   simp only[di]at a⊢;split at a
   .rename_i e;rw[aq e];cases g:bE H dep v with
    |none=>rw[g]at a;cases a
    |some p=>
     rw[g]at a;obtain⟨n,o,q⟩:=rC h dep v p g;rw[n];simp only at a⊢;cases m:p.cellsOf with
     |none=>rw[m]at a;cases a
     |some y=>
      rw[m]at a;simp only at a⊢;split at a
      .rename_i s;rw[aq s];cases j:di H c (k+1) r with
       |none=>rw[j]at a;cases a
       |some t=>
        rw[j]at a;obtain⟨u,w,x⟩:=uj h c r (k+1) t j;rw[u];refine⟨a,?_,λid hid=>?_⟩
        .simp only[List.map_cons,List.flatMap_cons];rw[o,w]
        .simp only[List.map_cons,List.flatMap_cons,List.mem_append]at hid;rcases hid with hid|hid
         .exact q id hid
         .exact x id hid
      .cases a
   .cases a
def ER{H j:Heap}(h:Sub H j){k:Nat}{x:DV}{l:Int}{c m:Option Int}{r:DV}{d:List Nat}(a:jb H k x l c m=some (r,d)):jb j k x l c m=some (r,d)/\∀id∈d,∃b,ah H id=some b:=by
 cases x with
 |ref id s t n=>
  simp only[jb]at a⊢;cases e:ah H id with
  |none=>rw[e]at a;cases a
  |some b=>
   rw[h id b e];rw[e]at a;refine⟨a,λi c=>?_⟩;have:i=id:=by
    cases b with
    |var f u|map f u|bh f g o=>cases a
    |row f g o=>
     simp only at a;split at a
     .split at a
      .split at a
       .simp only[aw,bQ]at a;obtain⟨_,rfl⟩:=a;split at c
        .cases c
        .simpa using c
       .cases a
      .simp only[aw,bQ]at a;obtain⟨_,rfl⟩:=a;cases c
     .cases a
   exact⟨b,by rw[this,e]⟩
 |p v=>
  cases v with
  |slice q o=>
   refine⟨a,λi c=>?_⟩;simp only[jb]at a;split at a
   .simp only[aw,bQ]at a;obtain⟨_,rfl⟩:=a;cases c
   .cases a
  |_=>cases a
 |_=>cases a
def qk{k:aI}{H m:Heap}(n:Sub H m){f:FuncId}{l:List DV}{s:Nat}{v:DV}{t:Heap}{e:Nat}(h:iU k false f l H s=some (v,t,e)):
  ∃d,t=cY H d/\e=s/\(∀id∈d,∃b,ah H id=some b)/\∀c,iU k false f l m c=some (v,cY m d,c):=by
 simp only[iU,Bool.false_eq_true,cy]at h⊢;cases i:cl (bE H dep) l with
 |none=>rw[i]at h;cases h
 |some o=>
  have u:=rJ l o i;rw[uH l o i λa _ b g=>(rC n dep a b g).1,eD l λa p=>by obtain⟨b,g⟩:=u a p;exact(rC n dep a b g).2.1];rw[i]at h;simp only at h⊢;cases w:k.pure f o with
  |none=>rw[w]at h;cases h
  |some r=>
   rw[w]at h;simp only[aw,bQ]at h⊢;obtain⟨rfl,rfl,rfl⟩:=h;by_cases j:r.plain=true
   .exact⟨[],by rw[aq j];rfl,rfl,aB,λc=>by simp[j,cY]⟩
   .refine⟨l.flatMap (eR H dep),by rw[an j],rfl,λid hid=>?_,λc=>by simp[j]⟩;obtain⟨a,p,q⟩:=List.mem_flatMap.1 hid;obtain⟨b,g⟩:=u a p;exact(rC n dep a b g).2.2 id q
def DW{H d:Heap}(h:Sub H d){v:DV}{r:Nat×SM}(a:tV H v=some r):tV d v=some r:=by
 unfold tV at a⊢;split at a
 .rename_i id;cases c:ah H id with
  |none=>rw[c]at a;cases a
  |some b=>rw[c]at a;rw[h id b c];exact a
 .exact a
 .cases a
def FH{cf:aI}{d:dN}{s:St}(V:d.cls=1){v:DV}{H':Heap}{Q:Nat}(h:bg cf d s=some (v,H',Q)){H:Heap}(F:Sub s.heap H)(n:Nat):
  ∃w,H'=cY s.heap w/\Q=s.next/\(∀id∈w,∃b,ah s.heap id=some b)/\bg cf d {s with heap:=H,next:=n}=some (v,cY H w,n):=by
 have A:∀(x:DO),St.ev {s with heap:=H,next:=n} x=s.ev x:=λx=>dj λ_ _=>rfl
 have M:∀(x:List DO),gn {s with heap:=H,next:=n} x=gn s x:=λx=>jn _ λ_ _=>rfl
 have R:∀(x:List (Nat×DO)),iG {s with heap:=H,next:=n} x=iG s x:=λx=>oa _ λ_ _=>rfl
 have S:∀(x:Option DO) (d:Int),sT {s with heap:=H,next:=n} x d=sT s x d:=λx d=>r8 (λ_ _=>rfl) d
 have T:∀(x:Option DO),qZ {s with heap:=H,next:=n} x=qZ s x:=λx=>pd λ_ _=>rfl
 have rd:∀(id:Nat),ah s.heap id=none/\True\/(∃f e D,ah s.heap id=some (.var f D)/\ah H id=some (.var e D))\/(∃f e u g,ah s.heap id=some (.row f u g)/\ah H id=some (.row e u g))\/(∃f e I,ah s.heap id=some (.map f I)/\ah H id=some (.map e I))\/∃f e u g,ah s.heap id=some (.bh f u g)/\ah H id=some (.bh e u g):=by
  intro id;cases j:ah s.heap id with
  |none=>exact .inl ⟨rfl,trivial⟩
  |some b=>cases b with
   |var f D=>exact .inr (.inl ⟨f,f,D,rfl,F id _ j⟩)
   |row f u g=>exact .inr (.inr (.inl ⟨f,f,u,g,rfl,F id _ j⟩))
   |map f I=>exact .inr (.inr (.inr (.inl ⟨f,f,I,rfl,F id _ j⟩)))
   |bh f u g=>exact .inr (.inr (.inr (.inr ⟨f,f,u,g,rfl,F id _ j⟩)))
 cases d
 case call b f g=>
  cases b with
  |true=>simp[dN.cls]at V
  |false=>
   simp only[bg,M]at h⊢;cases G:gn s g with
   |none=>rw[G]at h;cases h
   |some l=>
    rw[G]at h;obtain⟨w,a,c,O,K⟩:=qk F h;exact⟨w,a,c,O,K _⟩
 case eu b fv g=>
  cases b with
  |true=>simp[dN.cls]at V
  |false=>
   simp only[bg,M,A]at h⊢;split at h
   .rename_i f N l E G;try rw[E,G]
    obtain⟨w,a,c,O,K⟩:=qk F h;exact⟨w,a,c,O,K _⟩
   .rename_i f N l E G;try rw[E,G]
    obtain⟨w,a,c,O,K⟩:=qk F h;exact⟨w,a,c,O,K _⟩
   .rename_i f N l E G;try rw[E,G]
    obtain⟨w,a,c,O,K⟩:=qk F h;exact⟨w,a,c,O,K _⟩
   .cases h
 case slice u x lo P mx=>
  simp only[bg,A,S,T]at h⊢;split at h
  .rename_i q l hh m a c K e4;try rw[a,c,K,e4]
   try simp only
   cases W:jb s.heap u q l hh m with
   |none=>rw[W]at h;cases h
   |some r=>
    rw[W]at h;obtain⟨r,w⟩:=r;cases h;obtain⟨B,C⟩:=ER F W;rw[B];exact⟨w,rfl,rfl,C,rfl⟩
  .cases h
 case buildSlice z len ps=>
  simp only[bg,R]at h⊢;cases G:iG s ps with
  |none=>rw[G]at h;cases h
  |some l=>
   rw[G]at h;simp only at h⊢;cases X:di s.heap z.length 0 l with
   |none=>rw[X]at h;cases h
   |some g=>
    rw[X]at h;cases h;obtain⟨B,C,g3⟩:=uj F _ _ _ _ X;rw[B];simp only;rw[C];exact⟨_,rfl,by first|rfl|trivial,g3,by first|rfl|trivial⟩
 case load n x=>
  simp only[bg,A]at h⊢;refine⟨[],?_⟩;simp only[cY];cases E:s.ev x with
  |none=>rw[E]at h;cases h
  |some q=>
   rw[E]at h;cases q with
   |ptr id off=>
    simp only at h⊢;rcases rd id with⟨a,c⟩|⟨f,e,D,a,c⟩|⟨f,e,u,g,a,c⟩|⟨f,e,I,a,c⟩|⟨f,e,u,g,a,c⟩<;>rw[a]at h<;>(try rw[c])
    rotate_right 2
    .cases h
    .cases h
    .cases h
    .cases n with
     |none=>simp only at h⊢;cases j:D[off]?<;>rw[j]at h<;>cases h;exact⟨rfl,rfl,aB,rfl⟩
     |some n=>simp only at h⊢;cases j:dR D off n<;>rw[j]at h<;>cases h;exact⟨rfl,rfl,aB,rfl⟩
    .cases h
   |p q=>
    cases q with
    |eN D=>
     cases n with
     |none=>simp only at h⊢;cases j:D[0]?<;>rw[j]at h<;>cases h;exact⟨rfl,rfl,aB,rfl⟩
     |some n=>simp only at h⊢;cases j:dR D 0 n<;>rw[j]at h<;>cases h;exact⟨rfl,rfl,aB,rfl⟩
    |_=>cases h
   |du id L i off=>
    simp only at h⊢;rcases rd id with⟨a,c⟩|⟨f,e,D,a,c⟩|⟨f,e,u,g,a,c⟩|⟨f,e,I,a,c⟩|⟨f,e,u,g,a,c⟩<;>rw[a]at h<;>(try rw[c])
    rotate_right 2
    .cases h
    .simp only at h⊢;split at h
     .rename_i J;rw[aq J];cases P:g[i]? with
      |none=>rw[P]at h;cases h
      |some y=>
       rw[P]at h;cases n with
       |none=>simp only at h⊢;cases j:y[off]?<;>rw[j]at h<;>cases h;exact⟨rfl,rfl,aB,rfl⟩
       |some n=>simp only at h⊢;cases j:dR y off n<;>rw[j]at h<;>cases h;exact⟨rfl,rfl,aB,rfl⟩
     .cases h
    .cases h
    .cases h
    .simp only at h⊢;split at h
     .rename_i J;rw[aq J];cases P:g[i]? with
      |none=>rw[P]at h;cases h
      |some y=>
       rw[P]at h;cases n with
       |none=>simp only at h⊢;cases j:y[off]?<;>rw[j]at h<;>cases h;exact⟨rfl,rfl,aB,rfl⟩
       |some n=>simp only at h⊢;cases j:dR y off n<;>rw[j]at h<;>cases h;exact⟨rfl,rfl,aB,rfl⟩
     .cases h
   |_=>cases h
 case nilCheck x=>
  simp only[bg,A]at h⊢;refine⟨[],?_⟩;simp only[cY];cases E:s.ev x with
  |none=>rw[E]at h;cases h
  |some q=>
   rw[E]at h;simp only at h⊢;have Y:kd s.heap q=true->kd H q=true:=by
    intro hq;cases q with
    |ptr id off|du id L i off=>simp only[kd]at hq⊢;rcases rd id with⟨a,c⟩|⟨f,e,D,a,c⟩|⟨f,e,u,g,a,c⟩|⟨f,e,I,a,c⟩|⟨f,e,u,g,a,c⟩<;>rw[a]at hq<;>(try rw[c])<;>simp_all
    |p v=>cases v<;>simp_all [kd]
    |_=>simp_all [kd]
   split at h
   .rename_i j;cases h;rw[aq (Y j)];exact⟨rfl,rfl,aB,rfl⟩
   .cases h
 case fieldAddr off x=>
  simp only[bg,A]at h⊢;refine⟨[],?_⟩;simp only[cY];cases E:s.ev x with
  |none=>rw[E]at h;cases h
  |some q=>
   rw[E]at h;cases q with
   |ptr id o=>
    simp only at h⊢;rcases rd id with⟨a,c⟩|⟨f,e,D,a,c⟩|⟨f,e,u,g,a,c⟩|⟨f,e,I,a,c⟩|⟨f,e,u,g,a,c⟩<;>rw[a]at h<;>(try rw[c])<;>cases h
    exact⟨rfl,rfl,aB,rfl⟩
   |du id L i o=>
    simp only at h⊢;rcases rd id with⟨a,c⟩|⟨f,e,D,a,c⟩|⟨f,e,u,g,a,c⟩|⟨f,e,I,a,c⟩|⟨f,e,u,g,a,c⟩<;>rw[a]at h<;>(try rw[c])
    rotate_right 2
    .cases h
    .simp only at h⊢;split at h
     .rename_i j;cases h;rw[aq j];exact⟨rfl,rfl,aB,rfl⟩
     .cases h
    .cases h
    .cases h
    .simp only at h⊢;split at h
     .rename_i j;cases h;rw[aq j];exact⟨rfl,rfl,aB,rfl⟩
     .cases h
   |p v=>cases v<;>cases h;exact⟨rfl,rfl,aB,rfl⟩
   |_=>cases h
 case indexAddr u x i=>
  simp only[bg,A]at h⊢;refine⟨[],?_⟩;simp only[cY];split at h
  .rename_i U g k n a c;try rw[a,c]
   try simp only
   split at h
   .rename_i h0;rw[aq h0];cases hy:g[n.toNat]? with
    |none=>rw[hy]at h;cases h
    |some y=>
     rw[hy]at h;simp only at h⊢;split at h
     .rename_i G;cases h;rw[aq G];exact⟨rfl,rfl,aB,rfl⟩
     .cases h
   .cases h
  .rename_i id L off k kk n a c;try rw[a,c]
   try simp only
   rcases rd id with⟨B,C⟩|⟨f,e,D,B,C⟩|⟨f,e,u,g,B,C⟩|⟨f,e,I,B,C⟩|⟨f,e,u,g,B,C⟩<;>rw[B]at h<;>(try rw[C])
   rotate_right 2
   .cases h
   .simp only at h⊢;split at h
    .rename_i j;cases h;rw[aq j];exact⟨rfl,rfl,aB,rfl⟩
    .cases h
   .cases h
   .cases h
   .simp only at h⊢;split at h
    .rename_i j;cases h;rw[aq j];exact⟨rfl,rfl,aB,rfl⟩
    .cases h
  .cases h
 case cZ len u x i=>
  simp only[bg,A]at h⊢;refine⟨[],?_⟩;simp only[cY];split at h
  .rename_i id off k n a c;try rw[a,c]
   try simp only
   rcases rd id with⟨B,C⟩|⟨f,e,D,B,C⟩|⟨f,e,u,g,B,C⟩|⟨f,e,I,B,C⟩|⟨f,e,u,g,B,C⟩<;>rw[B]at h<;>(try rw[C])
   rotate_right 2
   .cases h
   .cases h
   .cases h
   .simp only at h⊢;split at h
    .rename_i j;cases h;rw[aq j];exact⟨rfl,rfl,aB,rfl⟩
    .cases h
   .cases h
  .cases h
 case fO o x5 x i=>
  simp only[bg,A]at h⊢;refine⟨[],?_⟩;simp only[cY];split at h
  .rename_i Z k a c;try rw[a,c]
   try simp only
   split at h
   .rename_i n' e hf;simp only[aw,bQ]at h;obtain⟨rfl,rfl,rfl⟩:=h;rw[DW F hf];exact⟨rfl,rfl,aB,rfl⟩
   .cases h
  .cases h
 case tX x=>
  simp only[bg,A]at h⊢;refine⟨[],?_⟩;simp only[cY];split at h
  .rename_i Z a;try rw[a]
   try simp only
   split at h
   .rename_i n' e hf;simp only[aw,bQ]at h;obtain⟨rfl,rfl,rfl⟩:=h;rw[DW F hf];exact⟨rfl,rfl,aB,rfl⟩
   .cases h
  .cases h
 case kS t x=>
  simp only[bg,A]at h⊢;refine⟨[],?_⟩;simp only[cY];split at h
  .rename_i Z a;try rw[a]
   try simp only
   split at h
   .rename_i p Y;obtain⟨B,C,_⟩:=rC F dep Z p Y;rw[B];simp only;split at h
    .rename_i ht;simp only[aw,bQ]at h;obtain⟨rfl,rfl,rfl⟩:=h;rw[C,aq ht];exact⟨rfl,rfl,aB,rfl⟩
    .cases h
   .cases h
  .cases h
 case len x=>
  simp only[bg,A]at h⊢;refine⟨[],?_⟩;simp only[cY];split at h
  .rename_i U g a;cases h;(try rw[a]);exact⟨rfl,rfl,aB,rfl⟩
  .rename_i id L off n a;try rw[a]
   try simp only
   rcases rd id with⟨B,C⟩|⟨f,e,D,B,C⟩|⟨f,e,u,g,B,C⟩|⟨f,e,I,B,C⟩|⟨f,e,u,g,B,C⟩<;>rw[B]at h<;>(try rw[C])
   rotate_right 2
   .cases h
   .cases h
   .cases h
   .cases h
   .simp only at h⊢;split at h
    .rename_i j;cases h;rw[aq j];exact⟨rfl,rfl,aB,rfl⟩
    .cases h
  .cases h
 all_goals(simp[dN.cls]at V)
end
end Go.Dv
