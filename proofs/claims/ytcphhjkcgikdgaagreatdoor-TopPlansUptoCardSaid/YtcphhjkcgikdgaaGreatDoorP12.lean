/- Lemmas for the law of this claim. -/
import Derived.Test.YtcphhjkcgikdgaaGreatDoorP10
import Derived.Test.YtcphhjkcgikdgaaGreatDoorP11
set_option linter.all false
namespace Go.Dv
section
open Go.RowKit
def lk(s:St)(x:DO):s.ev x=xB s.env x:=by cases x<;>rfl
def nQ{v:DV}(h:v.flat=true)(H f:Heap):bE f dep v=bE H dep v/\eR H dep v=[]:=by
 cases v with
 |p q=>exact⟨rfl,rfl⟩
 |agg b=>
  have d:∀c∈b,∃q,c=.p q:=by
   intro c d;have:=List.all_eq_true.1 h c d;cases c<;>simp at this
   exact⟨_,rfl⟩
  constructor
  .have e:cl (bE f 4) b=cl (bE H 4) b:=jP b λa i=>by obtain⟨q,rfl⟩:=d a i;rfl
   show(match cl (bE f 4) b with|some l=>some (PV.agg l)|none=>none)=_
   rw[e];rfl
  .show b.flatMap (eR H 4)=[]
   rw[List.flatMap_eq_nil_iff];intro c g;obtain⟨q,rfl⟩:=d c g;rfl
 |_=>simp[DV.flat]at h
def tC{H b:Heap}(a:Nat):∀(l:List (Nat×DV)) (k:Nat),(∀p∈l,p.2.flat=true)->di b a k l=di H a k l
 |[],_,_=>rfl
 |(i,v)::r,k,h=>by
   simp only[di];rw[(nQ (h (i,v) aB) H b).1,tC a r (k+1) λp c=>h p (by simp[c])]
def DQ{s:St}:∀(c:List (Nat×DO)) (l:List (Nat×DV)),c.all (λp=>oz s.env p.2)=true->iG s c=some l->∀p∈l,p.2.flat=true
 |[],l,_,h=>by simp only[iG,aw]at h;subst h;simp
 |(o,x)::r,l,a,h=>by
   simp only[List.all_cons,aO]at a;simp only[iG]at h;split at h
   .rename_i v q d e;cases h;intro p b;rcases List.mem_cons.1 b with rfl|b
    .have:=a.1;unfold oz at this;rw[<-lk,d]at this;exact this
    .exact DQ r q a.2 e p b
   .cases h
def FA{s:St}:∀(c:List DO) (l:List DV),c.all (oz s.env)=true->gn s c=some l->∀p∈l,p.flat=true
 |[],l,_,h=>by simp only[gn,aw]at h;subst h;simp
 |x::r,l,a,h=>by
  simp only[List.all_cons,aO]at a;simp only[gn]at h;split at h
  .rename_i v q d e;cases h;intro p b;rcases List.mem_cons.1 b with rfl|b
   .have:=a.1;unfold oz at this;rw[<-lk,d]at this;exact this
   .exact FA r q a.2 e p b
  .cases h
def G2{E:aI}{d:dN}{s:St}(c:dQ s.env d=some none){v:DV}{K:Heap}{L:Nat}(h:bg E d s=some (v,K,L)):
  K=s.heap/\L=s.next/\∀(H:Heap) (n:Nat),bg E d {s with heap:=H,next:=n}=some (v,H,n):=by
 have g:∀(H:Heap) (j:Nat) (x:DO),St.ev {s with heap:=H,next:=j} x=s.ev x:=λH j x=>dj λ_ _=>rfl
 have t:∀(H:Heap) (j:Nat) (x:List DO),gn {s with heap:=H,next:=j} x=gn s x:=λH j x=>jn _ λ_ _=>rfl
 have w:∀(H:Heap) (j:Nat) (x:List (Nat×DO)),iG {s with heap:=H,next:=j} x=iG s x:=λH j x=>oa _ λ_ _=>rfl
 cases d<;>try(simp[dQ]at c;done)
 case load k x=>
  simp only[dQ,<-lk]at c;simp only[bg,g]at h⊢;cases e:s.ev x with
  |none=>rw[e]at h;cases h
  |some q=>
   rw[e]at h c;cases q with
   |p q=>
    cases q<;>simp only at h<;>try(cases h;done)
    cases k with
    |none|some k=>simp only at h⊢;split at h<;>cases h;exact⟨rfl,rfl,λ_ _=>rfl⟩
   |_=>simp at c
 case fieldAddr o x=>
  simp only[dQ,<-lk]at c;simp only[bg,g]at h⊢;cases e:s.ev x with
  |none=>rw[e]at h;cases h
  |some q=>
   rw[e]at h c;cases q with
   |p q=>
    cases q<;>simp only at h<;>try(cases h;done)
    cases h;exact⟨rfl,rfl,λ_ _=>rfl⟩
   |_=>simp at c
 case nilCheck x=>
  simp only[dQ,<-lk]at c;simp only[bg,g]at h⊢;cases e:s.ev x with
  |none=>rw[e]at h;cases h
  |some q=>
   rw[e]at h c;cases q with
   |p q=>
    simp only at h⊢;split at h
    case isFalse=>cases h
    rename_i y;cases h;refine⟨rfl,rfl,λH n=>?_⟩;rw[aq (by cases q<;>first|rfl|(simp[kd]at y))]
   |_=>simp at c
 case indexAddr z x i=>
  simp only[dQ,<-lk]at c;simp only[bg,g]at h⊢;cases e:s.ev x with
  |none=>rw[e]at h;cases h
  |some q=>
   rw[e]at h c;cases q with
   |p q=>
    cases M:s.ev i with
    |none=>rw[M]at h;cases q<;>cases h
    |some u=>
     rw[M]at h;split at h
     .rename_i F N;cases F;cases N;split at h
      .rename_i O;split at h
       .rename_i P;split at h
        .rename_i Q;cases h;refine⟨rfl,rfl,λ_ _=>?_⟩;simp only[aq O,P,aq Q]
        .cases h
       .cases h
      .cases h
     .rename_i F _;cases F
     .cases h
   |_=>simp at c
 case buildSlice z R D=>
  simp only[dQ]at c;split at c
  .rename_i A;simp only[bg,w]at h⊢;cases m:iG s D with
   |none=>rw[m]at h;cases h
   |some l=>
    have B:=DQ D l A m;rw[m]at h;simp only at h⊢;cases G:di s.heap z.length 0 l with
    |none=>rw[G]at h;cases h
    |some S=>
     rw[G]at h;cases h;have C:∀H:Heap,(l.map (·.2)).flatMap (eR H dep)=[]:=by
      intro H;rw[List.flatMap_eq_nil_iff];intro v e;obtain⟨p,y,rfl⟩:=List.mem_map.1 e;exact(nQ (B p y) H H).2
     refine⟨by rw[C];rfl,rfl,λH n=>?_⟩
     rw[tC _ l 0 B,G];simp only;rw[C];rfl
  .cases c
 case call b f args=>
  cases b with
  |true=>simp[dQ]at c
  |false=>
   simp only[dQ]at c;split at c
   .rename_i A;simp only[bg,t]at h⊢;cases m:gn s args with
    |none=>rw[m]at h;cases h
    |some l=>
     have B:=FA args l A m;rw[m]at h;simp only[iU,Bool.false_eq_true,cy]at h⊢;have C:∀H:Heap,l.flatMap (eR H dep)=[]:=by
      intro H;rw[List.flatMap_eq_nil_iff];exact λv e=>(nQ (B v e) H H).2
     have y:∀H:Heap,cl (bE H dep) l=cl (bE s.heap dep) l:=λH=>jP l λa A=>(nQ (B a A) s.heap H).1
     cases I:cl (bE s.heap dep) l with
     |none=>rw[I]at h;cases h
     |some D=>
      rw[I]at h;simp only at h;cases J:E.pure f D with
      |none=>rw[J]at h;cases h
      |some r=>
       rw[J]at h;simp only[aw,bQ]at h;obtain⟨rfl,rfl,rfl⟩:=h;refine⟨by rw[C];split<;>rfl,rfl,λH n=>?_⟩
       rw[y,I];simp only[J];rw[C];simp only[cY,ite_self]
   .cases c
def OA{y:aI}{d:dN}{s:St}{j:Nat}(a:dQ s.env d=some (some j)){v:DV}{A:Heap}{B:Nat}(h:bg y d s=some (v,A,B)):
  A=s.heap/\B=s.next/\True/\∀(H:Heap) (n:Nat),ah H j=ah s.heap j->bg y d {s with heap:=H,next:=n}=some (v,H,n):=by
 have l:∀(H:Heap) (C:Nat) (x:DO),St.ev {s with heap:=H,next:=C} x=s.ev x:=λH C x=>dj λ_ _=>rfl
 cases d<;>try(simp[dQ]at a;done)
 case load k x=>
  simp only[dQ,<-lk]at a;simp only[bg,l]at h⊢;cases c:s.ev x with
  |none=>rw[c]at h;cases h
  |some q=>
   rw[c]at h a;cases q with
   |ptr i off=>
    simp only[aw]at a;subst a;simp only at h⊢;cases g:ah s.heap i with
    |none=>rw[g]at h;cases h
    |some b=>
     rw[g]at h;cases b with
     |row f t w|map f D|bh f t w=>cases h
     |var f m=>
      cases k with
      |none|some k=>simp only at h;split at h<;>cases h;rename_i e;refine⟨rfl,rfl,trivial,λH n r=>?_⟩;rw[r];simp only[e]
   |_=>simp at a
 case fieldAddr o x=>
  simp only[dQ,<-lk]at a;simp only[bg,l]at h⊢;cases c:s.ev x with
  |none=>rw[c]at h;cases h
  |some q=>
   rw[c]at h a;cases q with
   |ptr i off=>
    simp only[aw]at a;subst a;simp only at h⊢;cases g:ah s.heap i with
    |none=>rw[g]at h;cases h
    |some b=>
     rw[g]at h;cases b with
     |row f t w|map f D|bh f t w=>cases h
     |var f m=>cases h;refine⟨rfl,rfl,trivial,λH n r=>?_⟩;rw[r]
   |_=>simp at a
 case nilCheck x=>
  simp only[dQ,<-lk]at a;simp only[bg,l]at h⊢;cases c:s.ev x with
  |none=>rw[c]at h;cases h
  |some q=>
   rw[c]at h a;cases q with
   |ptr i off=>
    simp only[aw]at a;subst a;simp only at h⊢;split at h
    case isFalse=>cases h
    rename_i E;cases h;have c:∃f m,ah s.heap i=some (.var f m):=by
     cases g:ah s.heap i with
     |none=>simp[kd,g]at E
     |some b=>cases b with
      |var f m=>exact⟨f,m,rfl⟩
      |_=>simp[kd,g]at E
    obtain⟨f,m,g⟩:=c;refine⟨rfl,rfl,trivial,λH n r=>?_⟩;rw[aq (by simp[kd,r,g])]
   |_=>simp at a
 case indexAddr z x i=>
  simp only[dQ,<-lk]at a;simp only[bg,l]at h⊢;cases c:s.ev x with
  |none=>rw[c]at h;cases h
  |some q=>
   rw[c]at h a;cases q with
   |ref id G off k=>
    simp only[aw]at a;subst a;cases F:s.ev i with
    |none=>rw[F]at h;cases h
    |some u=>
     rw[F]at h;cases u with
     |p u=>
      cases u with
      |int I n=>
       simp only at h⊢;cases g:ah s.heap id with
       |none=>rw[g]at h;cases h
       |some b=>
        rw[g]at h;cases b with
        |var f m|map f D=>cases h
        |row f t w|bh f t w=>simp only at h;split at h<;>cases h;rename_i e;refine⟨rfl,rfl,trivial,λH n r=>?_⟩;rw[r];simp only[e,and_self,bZ]
      |_=>cases h
     |_=>cases h
   |_=>simp at a
 case call b f args=>
  cases b with
  |true=>simp[dQ]at a
  |false=>simp only[dQ]at a;split at a<;>simp at a
def Py{A:aI}{d:dN}{s:St}{j:Nat}{r:Option DV}(c:gV s.env j r d=true){v:DV}{t:Heap}{B:Nat}(h:bg A d s=some (v,t,B))(w:∀u,r=some u->u=v):
  ah t j=ah s.heap j:=by
 cases d<;>try(simp[gV]at c;done)
 case store k a x=>
  simp only[gV,<-lk]at c;simp only[bg]at h;cases o:s.ev a with
  |none=>rw[o]at h;simp at h
  |some q=>
   rw[o]at h c;cases q with
   |ptr i off=>
    have g:¬i=j:=by simpa using c
    cases m:s.ev x with
    |none=>rw[m]at h;simp at h
    |some u=>
     rw[m]at h;simp only at h;split at h
     .split at h
      .cases h;rw[bn,an g]
      .cases h
     .cases h
   |_=>simp at c
 case je z x=>
  simp only[gV]at c;cases r with
  |none=>simp at c
  |some u=>
   obtain rfl:=w u rfl;simp only at c;simp only[bg]at h;cases m:s.ev x with
   |none=>rw[m]at h;cases h
   |some q=>
    rw[m]at h;simp only at h;split at h
    case h_2=>cases h
    split at h
    case isFalse=>cases h
    cases h;have g:¬s.next=j:=by simpa[sB]using c
    rw[aP,an g]
 case mH b z a x=>
  simp only[gV]at c;cases r with
  |none=>simp at c
  |some u=>
   obtain rfl:=w u rfl;simp only at c;simp only[bg]at h;cases o:s.ev a with
   |none=>rw[o]at h;cases h
   |some p=>
   cases m:s.ev x with
   |none=>rw[o,m]at h;cases h
   |some q=>
    rw[o,m]at h;simp only[re]at h;split at h
    case h_2=>cases h
    split at h
    case h_2=>cases h
    split at h
    case isFalse=>cases h
    rename_i id _ _ _ _ _ _ _ _ _ _ _ _ _ _ _ _ _;cases h;have g:¬id=j:=by simpa[sB]using c
    rw[bn,an g]
 case jZ f E=>
  simp only[gV]at c;cases r with
  |none=>simp at c
  |some u=>
   obtain rfl:=w u rfl;simp only at c;simp only[bg]at h;cases m:gn s E with
   |none=>rw[m]at h;cases h
   |some l=>
    rw[m]at h;simp only at h;cases C:A.de f l s.heap s.next with
    |none=>rw[C]at h;cases h
    |some q=>
     obtain⟨H,I,J⟩:=q;rw[C]at h;simp only at h;split at h
     case isFalse=>cases h
     rename_i F;cases h;obtain⟨⟨G,off,n,rfl⟩,b,rfl⟩:=F;have g:¬s.next=j:=by simpa[sB]using c
     rw[aP,an g]
 case append b z a x=>
  simp only[gV]at c;cases r with
  |none=>simp at c
  |some u=>
   obtain rfl:=w u rfl;simp only at c;have y:∀(D:List (List PV)) (q:DV),iX b z D q s.heap s.next=some (u,t,B)->ah t j=ah s.heap j:=by
    intro D q e;unfold iX at e;split at e
    .split at e
     .split at e
      .cases e;rfl
      .simp only[aw,bQ]at e;obtain⟨rfl,rfl,rfl⟩:=e;have g:¬s.next=j:=by simpa[sB]using c
       rw[aP,an g]
     .split at e
      .cases e;rfl
      .cases e
    .split at e
     .split at e
      .simp only[aw,bQ]at e;obtain⟨rfl,rfl,rfl⟩:=e;rename_i id _ _ _ _ _ _ _ _;have g:¬id=j:=by simpa[sB]using c
       rw[bn,an g]
      .cases e
     .cases e
    .cases e
   simp only[bg]at h;split at h
   .split at h
    .split at h
     .exact y _ _ h
     .cases h
    .cases h
   .cases h
def CC{i j:Nat}(h:i≠j)(a b:ca):∀H:Heap,aH (aH H i a) j b=aH (aH H j b) i a
 |[]=>rfl
 |(k,v)::r=>by
   have g:=CC h a b r;simp only[aH];by_cases f:k=i
   .subst f;have d:(k==j)=false:=by simpa using h
    simp[aH,d]
   .have c:(k==i)=false:=by simpa using f
    by_cases d:k=j
    .subst d;simp[aH,c]
    .have e:(k==j)=false:=by simpa using d
     simp[aH,c,e,g]
def MD{C:aI}{d:dN}{s:St}{i:Nat}(c:storeAt s.env d=some i){v:DV}{D:Heap}{E:Nat}(h:bg C d s=some (v,D,E)):
  E=s.next/\∃b,D=aH s.heap i b/\∀(H:Heap) (n:Nat),ah H i=ah s.heap i->bg C d {s with heap:=H,next:=n}=some (v,aH H i b,n):=by
 have o:∀(H:Heap) (F:Nat) (x:DO),St.ev {s with heap:=H,next:=F} x=s.ev x:=λH F x=>dj λ_ _=>rfl
 cases d<;>try(simp[storeAt]at c;done)
 case store k a x=>
  simp only[storeAt,<-lk]at c;simp only[bg,o]at h⊢;cases G:s.ev a with
  |none=>rw[G]at h;simp at h
  |some q=>
   rw[G]at h c;cases p:s.ev x with
   |none=>rw[p]at h;cases q<;>simp at h
   |some u=>
    rw[p]at h;cases q with
    |ptr id off=>
     simp only[aw]at c;subst c;simp only at h⊢;cases j:ah s.heap id with
     |none=>rw[j]at h;cases h
     |some b=>
      rw[j]at h;cases b with
      |var f N=>
       cases f with
       |true=>simp at h
       |false=>
        cases I:u.cells with
        |none=>rw[I]at h;simp at h
        |some l=>
         rw[I]at h;simp only at h;split at h
         .rename_i e;cases h;refine⟨rfl,_,rfl,λH n m=>?_⟩;rw[m];simp only[e,and_self,bZ]
         .cases h
      |_=>simp at h
    |du id J O off=>
     simp only at c;split at c
     .rename_i r;simp only[aw]at c;subst c;have g:u.flat=true:=by
       unfold oz at r;rw[<-lk,p]at r;exact r
      simp only at h⊢;cases j:ah s.heap id with
      |none=>rw[j]at h;cases h
      |some b=>
       rw[j]at h;cases b with
       |row f K L=>
        cases f with
        |true=>simp at h
        |false=>
         have M:=λH=>nQ g s.heap H
         have t:=(nQ g s.heap s.heap).2;simp only[t,cY,List.not_mem_nil,not_false_eq_true,and_true]at h;cases z:bE s.heap dep u with
         |none=>rw[z]at h;cases h
         |some w=>
          rw[z]at h;simp only at h;split at h
          .rename_i y l A B;split at h
           .rename_i e;cases h;refine⟨rfl,_,rfl,λH n m=>?_⟩;rw[m];simp only[(M H).1,(nQ g H H).2,z,A,B,e,cY,List.not_mem_nil,not_false_eq_true,and_true,and_self,bZ]
           .cases h
          .cases h
       |bh f K L=>
        cases f with
        |true=>simp at h
        |false=>
         simp only at h;split at h
         .rename_i y l A B;split at h
          .rename_i e;cases h;refine⟨rfl,_,rfl,λH n m=>?_⟩;rw[m];simp only[A,B,e,and_self,bZ]
          .cases h
         .cases h
       |_=>simp at h
     .cases c
    |_=>simp at c
end
section
open Go.RowKit
section
variable{cf:aI}
def Step.reads{x:ai}{s:St}{v:DV}{H:Heap}{n:Nat}{q:Option Nat}(k:dQ s.env x.op=some q)(h:Step cf x s v H n):
  H=s.heap/\n=s.next/\∀(d:Heap) (f:Nat),(∀j,q=some j->ah d j=ah s.heap j)->Step cf x {s with heap:=d,next:=f} v d f:=by
 rcases h with⟨g,i,l,m⟩|⟨g,i⟩
 .exact⟨l,m,λd f _=>.inl ⟨g,i,rfl,rfl⟩⟩
 .cases q with
  |none=>
   obtain⟨a,b,c⟩:=G2 k i;exact⟨a,b,λd f _=>.inr ⟨g,c d f⟩⟩
  |some j=>
   obtain⟨a,b,_,c⟩:=OA k i;exact⟨a,b,λd f e=>.inr ⟨g,c d f (e j rfl)⟩⟩
def Step.keeps{x:ai}{s:St}{v:DV}{H:Heap}{n j:Nat}{r:Option DV}(b:gV s.env j r x.op=true)(h:Step cf x s v H n)(c:∀u,r=some u->u=v):ah H j=ah s.heap j:=by
 rcases h with⟨d,a,e,f⟩|⟨d,a⟩
 .rw[e]
 .exact Py b a c
def sL(i:Nat)(o:Option ca)(H:Heap):Heap:=match o with
 |some b=>aH H i b
 |none=>H
def Ig{i j:Nat}(h:i≠j)(o:Option ca)(H:Heap):ah (sL i o H) j=ah H j:=by
 cases o with
 |none=>rfl
 |some b=>simp only[sL,bn,an h]
def Lo{i j:Nat}(h:i≠j)(o a:Option ca)(H:Heap):sL j a (sL i o H)=sL i o (sL j a H):=by
 cases o<;>cases a<;>simp only[sL]
 exact CC h _ _ H
def Step.store{x:ai}{s:St}{v:DV}{H:Heap}{n i:Nat}(l:storeAt s.env x.op=some i)(h:Step cf x s v H n):
  n=s.next/\∃o,H=sL i o s.heap/\∀(f:Heap) (g:Nat),ah f i=ah s.heap i->Step cf x {s with heap:=f,next:=g} v (sL i o f) g:=by
 rcases h with⟨j,k,m,p⟩|⟨j,k⟩
 .exact⟨p,none,m,λf g _=>.inl ⟨j,k,rfl,rfl⟩⟩
 .obtain⟨a,b,c,d⟩:=MD l k;exact⟨a,some b,c,λf g e=>.inr ⟨j,d f g e⟩⟩
def oi{e a:Env}{x:DO}(h:∀k∈x.rd,ah a k=ah e k):xB a x=xB e x:=by
 cases x with
 |t k=>exact h k (by simp[DO.rd])
 |c v=>rfl
def rQ{e a:Env}{x:DO}(h:∀k∈x.rd,ah a k=ah e k):oz a x=oz e x:=by
 unfold oz;rw[oi h]
def tq{c:Type}{f g:c->Bool}:∀(l:List c),(∀a∈l,f a=g a)->l.all f=l.all g
 |[],_=>rfl
 |a::r,h=>by simp only[List.all_cons];rw[h a aB,tq r λb d=>h b (by simp[d])]
def nZ{e g:Env}{d:dN}(h:∀k∈d.rd,ah g k=ah e k):dQ g d=dQ e d:=by
 cases d<;>try rfl
 case load k x|fieldAddr o x|nilCheck x=>simp only[dQ];rw[oi h]
 case indexAddr z x i=>simp only[dQ];rw[oi λk a=>h k (by simp only[dN.rd,List.mem_append];exact .inl a)]
 case buildSlice z l j=>
  simp only[dQ];rw[tq j λp c=>rQ λk a=>h k (by simp only[dN.rd,List.mem_flatMap];exact⟨p,c,a⟩)]
 case call b f args=>
  cases b with
  |true=>rfl
  |false=>
   simp only[dQ];rw[tq args λp c=>rQ λk a=>h k (by simp only[dN.rd,List.mem_flatMap];exact⟨p,c,a⟩)]
def lO{e b:Env}{j:Nat}{r:Option DV}{d:dN}(h:∀k∈d.rd,ah b k=ah e k):gV b j r d=gV e j r d:=by
 cases d<;>try rfl
 case store n a x=>simp only[gV];rw[oi λk c=>h k (by simp only[dN.rd,List.mem_append];exact .inl c)]
def kA{e c:Env}{d:dN}(h:∀k∈d.rd,ah c k=ah e k):storeAt c d=storeAt e d:=by
 cases d<;>try rfl
 case store n a x=>
  simp only[storeAt];rw[oi λk b=>h k (by simp only[dN.rd,List.mem_append];exact .inl b),rQ λk b=>h k (by simp only[dN.rd,List.mem_append];exact .inr b)]
def lX{x:ai}{k:Nat}(h:k∈x.op.rd):k∈x.rd:=by unfold ai.rd;exact List.mem_append.2 (.inr h)
def LC{x y:ai}(C:apart x y=true)(D:∀k∈x.rd,x.dst≠some k)(E:∀k∈y.rd,y.dst≠some k){s M F:St}(Q:cM cf x s=some M)(R:cM cf y M=some F)(b:uh F.env x y=true):
  ∃r,cM cf y s=some r/\cM cf x r=some F:=by
 obtain⟨S,z,N⟩:=apart_spec C;obtain⟨c,Hx,T,A,rfl⟩:=dP.1 Q;obtain⟨e,m,t,G,rfl⟩:=dP.1 R;have H:dz (dz s.env x.dst c) y.dst e=dz (dz s.env y.dst e) x.dst c:=vL N;have I:∀k∈x.rd,ah (dz (dz s.env x.dst c) y.dst e) k=ah s.env k:=λk a=>by rw[dB (z k a),dB (D k a)]
 have J:∀k∈y.rd,ah (dz (dz s.env x.dst c) y.dst e) k=ah (dz s.env x.dst c) k:=λk a=>dB (E k a)
 have f:∀k∈y.rd,ah (dz s.env x.dst c) k=ah s.env k:=λk a=>dB (S k a)
 have U:∀u,tf (dz (dz s.env x.dst c) y.dst e) x.dst=some u->u=c:=by
  intro u g;cases p:x.dst with
  |none=>rw[p]at g;cases g
  |some k=>
   rw[p]at g;simp only[tf]at g;rw[dB (N k p)]at g;simp only[dz,jQ,bZ]at g;exact(GU g).symm
 have V:∀u,tf (dz (dz s.env x.dst c) y.dst e) y.dst=some u->u=e:=by
  intro u g;cases p:y.dst with
  |none=>rw[p]at g;cases g
  |some k=>
   rw[p]at g;simp only[tf,dz,jQ,bZ]at g;exact(GU g).symm
 unfold uh at b;rw[iT,iT]at b;rcases b with(b|b)|b
 ·
  rw[nZ λk a=>I k (lX a)]at b;cases n:dQ s.env x.op with
  |none=>rw[n]at b;cases b
  |some q=>
   obtain⟨rfl,rfl,l⟩:=A.reads n;have h:Step cf y s e m t:=by
    refine Step.congr ?_ ?_ ?_ G
    .exact λk a=>(f k a).symm
    .rfl
    .rfl
   have d:∀j,q=some j->ah m j=ah s.heap j:=by
    rintro j rfl;rw[n]at b;simp only at b;rw[lO λk a=>(J k (lX a)).trans (f k (lX a))]at b;exact h.keeps b V
   refine⟨_,dP.2 ⟨e,m,t,h,rfl⟩,dP.2 ⟨c,m,t,?_,by rw[H]⟩⟩;refine Step.congr ?_ ?_ ?_ (l m t d)
   .exact λk a=>dB (z k a)
   .rfl
   .rfl
 ·
  rw[nZ λk a=>J k (lX a)]at b;cases n:dQ (dz s.env x.dst c) y.op with
  |none=>rw[n]at b;cases b
  |some q=>
   obtain⟨v,w,l⟩:=G.reads (s:={env:=dz s.env x.dst c,heap:=Hx,next:=T,marks:=s.marks}) n;simp only at v w l;subst v;subst w;have d:∀j,q=some j->ah s.heap j=ah m j:=by
    rintro j rfl;rw[n]at b;simp only at b;rw[lO λk a=>I k (lX a)]at b;exact(A.keeps b U).symm
   have h:Step cf y s e s.heap s.next:=by
    refine Step.congr ?_ ?_ ?_ (l s.heap s.next d)
    .exact λk a=>(f k a).symm
    .rfl
    .rfl
   refine⟨_,dP.2 ⟨e,s.heap,s.next,h,rfl⟩,dP.2 ⟨c,m,t,?_,by rw[H]⟩⟩;refine Step.congr ?_ ?_ ?_ A
   .exact λk a=>dB (z k a)
   .rfl
   .rfl
 ·
  rw[kA λk a=>I k (lX a),kA λk a=>(J k (lX a)).trans (f k (lX a))]at b;cases B:storeAt s.env x.op with
  |none=>rw[B]at b;cases b
  |some i=>
   cases K:storeAt s.env y.op with
   |none=>rw[B,K]at b;cases b
   |some j=>
    rw[B,K]at b;have o:i≠j:=by simpa using b
    obtain⟨rfl,O,rfl,W⟩:=A.store B;obtain⟨v,L,w,P⟩:=G.store (s:={env:=dz s.env x.dst c,heap:=sL i O s.heap,next:=s.next,marks:=s.marks}) ((kA λk a=>f k (lX a)).trans K);simp only at v w P;subst v;subst w;have h:Step cf y s e (sL j L s.heap) s.next:=by
     refine Step.congr ?_ ?_ ?_ (P s.heap s.next (Ig o O s.heap).symm)
     .exact λk a=>(f k a).symm
     .rfl
     .rfl
    refine⟨_,dP.2 ⟨e,_,s.next,h,rfl⟩,dP.2 ⟨c,_,s.next,?_,by rw[H]⟩⟩;rw[Lo o];refine Step.congr ?_ ?_ ?_ (W (sL j L s.heap) s.next (Ig (Ne.symm o) L s.heap))
    .exact λk a=>dB (z k a)
    .rfl
    .rfl
end
end
section
open Go.RowKit
def yY{x:ai}(h:qj x=true):∀k∈x.rd,x.dst≠some k:=by
 intro k a e;unfold qj at h;rw[e]at h;simp at h;exact h a
def sF{o x:ai}(h:jf o x=true):(∀k∈x.rd,o.dst≠some k)/\∀k,x.dst=some k->o.dst≠some k:=by
 unfold jf at h;constructor
 .intro k a e;rw[e]at h;simp at h;exact h.1 a
 .intro k a e;rw[e]at h;simp at h;exact h.2 a
def Ea{o x:ai}(h:apart o x=true):jf o x=true:=by
 obtain⟨b,e,c⟩:=apart_spec h;unfold jf;cases a:o.dst with
 |none=>rfl
 |some k=>
  simp only[aO,jW,G5,ne_eq];refine⟨?_,c k a⟩;cases d:x.rd.contains k with
  |false=>rfl
  |true=>exact absurd a (b k (by simpa using d))
section
variable{cf:aI}
def Qk{x:ai}{s a:St}(h:cM cf x s=some a){k:Nat}(b:x.dst≠some k):ah a.env k=ah s.env k:=by
 obtain⟨v,H,n,_,rfl⟩:=dP.1 h;exact dB b
def Fw:∀(l:List ai) (s a:St),bR cf l s=some a->∀k,(∀o∈l,o.dst≠some k)->ah a.env k=ah s.env k
 |[],s,a,h,k,_=>by simp only[bR,aw]at h;subst h;rfl
 |o::r,s,a,h,k,c=>by
  simp only[bR]at h;cases b:cM cf o s with
  |none=>rw[b]at h;cases h
  |some d=>
   rw[b]at h;rw[Fw r d a h k λq e=>c q (by simp[e]),Qk b (c o aB)]
def GC{e b:Env}{x y:ai}(c:∀k∈x.rd,ah b k=ah e k)(d:∀k∈y.rd,ah b k=ah e k)(f:∀k,x.dst=some k->ah b k=ah e k)(g:∀k,y.dst=some k->ah b k=ah e k):uh b x y=uh e x y:=by
 have i:tf b x.dst=tf e x.dst:=by
  cases h:x.dst with
  |none=>rfl
  |some k=>exact f k h
 have l:tf b y.dst=tf e y.dst:=by
  cases h:y.dst with
  |none=>rfl
  |some k=>exact g k h
 unfold uh;rw[nZ λk a=>c k (lX a),nZ λk a=>d k (lX a),kA λk a=>c k (lX a),kA λk a=>d k (lX a),i,l];congr 1;congr 1
 .cases dQ e x.op with
  |none=>rfl
  |some q=>cases q with
   |none=>rfl
   |some j=>exact lO λk a=>d k (lX a)
 .cases dQ e y.op with
  |none=>rfl
  |some q=>cases q with
   |none=>rfl
   |some j=>exact lO λk a=>c k (lX a)
def qT(i:ai)(a:List ai)(b:St):List ai->Prop
 |[]=>True
 |j::r=>(iy j i=true\/(apart j i=true/\qj j=true/\qj i=true/\uh b.env j i=true/\∀o∈r++a,jf o j=true/\jf o i=true))/\qT i a b r
def rN{i:ai}{f:List ai}{g:St}:∀(q:List ai) (s:St),qT i f g q->bR cf (q++i::f) s=some g->bR cf (i::(q++f)) s=some g
 |[],s,_,h=>h
 |j::r,s,C,h=>by
  obtain⟨t,u⟩:=C;simp only[List.cons_append,bR]at h;cases l:cM cf j s with
  |none=>rw[l]at h;cases h
  |some A=>
   rw[l]at h;have b:=rN r A u h;simp only[bR]at b;cases m:cM cf i A with
   |none=>rw[m]at b;cases b
   |some B=>
    rw[m]at b;simp only at b;have v:∃c,cM cf i s=some c/\cM cf j c=some B:=by
     rcases t with w|⟨x,y,z,e,n⟩
     .exact Cu w l m
     .refine LC x (yY y) (yY z) l m ?_;rw[<-e];have p:∀k,(∀o∈r++f,o.dst≠some k)->ah B.env k=ah g.env k:=λk a=>(Fw _ _ _ b k a).symm
      exact GC (λk a=>p k λo d=>(sF (n o d).1).1 k a) (λk a=>p k λo d=>(sF (n o d).2).1 k a)
       (λk a=>p k λo d=>(sF (n o d).1).2 k a) (λk a=>p k λo d=>(sF (n o d).2).2 k a)
    obtain⟨c,D,E⟩:=v;simp only[bR,D,List.cons_append,E];exact b
end
end
section
open Go.RowKit
section
variable{P:Program}{B:Nat}{w0:World}{U0:Nat->Prop}{β:Place}{w:World}{nt:Cx}{s:St}{a:Act}{cf:aI}
def uW{c:List (Nat×Nat)}{b:List ai}:∀(k:Nat) (g:List Oper) (l:List ai),ma c b k g l=true->∀(i:Nat) (o:Oper) (d:ai),g[i]?=some o->l[i]?=some d->
  (∀p∈direct o,p∈d.dp)/\(∀p∈d.dp,p<k+i/\(p∈direct o\/∃q∈direct o,∃e,b[q]?=some e/\p∈e.dp))/\∀j,j<k+i->j∈d.dp\/(∃e,b[j]?=some e/\iy e d=true)\/((j,k+i)∈c/\yA b j (k+i)=true)
 |k,[],[],_,i,o,d,h,_=>by simp at h
 |k,o::g,d::l,h,i,u,v,m,n=>by
  simp only[ma,aO]at h;obtain⟨⟨⟨x,y⟩,z⟩,A⟩:=h;cases i with
  |zero=>
   simp only[List.getElem?_cons_zero,aw]at m n;subst m;subst n;refine⟨λp t=>?_,λp t=>?_,λj C=>?_⟩
   .have:=List.all_eq_true.1 x p t;simpa using this
   .have:=List.all_eq_true.1 y p t;simp only[aO,cp,iT,List.contains_iff_mem,List.any_eq_true]at this;refine⟨ae,?_⟩;rcases this.2 with h|⟨q,D,r⟩
    .exact .inl h
    .right;refine⟨q,D,?_⟩;cases f:b[q]? with
     |none=>rw[f]at r;cases r
     |some e=>rw[f]at r;exact⟨e,rfl,by simpa using r⟩
   .have:=List.all_eq_true.1 z j (by simpa using C);simp only[iT,aO,List.contains_iff_mem]at this;rcases this with(h|h)|h
    .exact .inl h
    .right;left;cases f:b[j]? with
     |none=>rw[f]at h;cases h
     |some e=>rw[f]at h;exact⟨e,rfl,h⟩
    .exact .inr (.inr (by simpa using h))
  |succ i=>
   simp only[List.getElem?_cons_succ]at m n;have:=uW (k+1) g l A i u v m n;rw[show k+(i+1)=k+1+i from ae];exact this
 |k,[],_::_,h,_,_,_,_,_=>by simp[ma]at h
 |k,_::_,[],h,_,_,_,_,_=>by simp[ma]at h
def I3{U:List (Nat×Nat)}(hc:bS P cf){f:Array Oper}{m:List ai}(hm:b4 P nt.bd f f.toList m=true)(ho:ma U m 0 f.toList m=true){Q:Exit->Act->World->Prop}{s':St}(xb:jg U m s'.env=true)(hQ:∀a' w' Y,bH B w0 U0 nt Y s' a' w'->Q .normal a' w'):
  ∀(z:Nat) (b:Array Bool) (R:List Nat) (s:St) (a:Act) (w:World) (β:Place),R.length<=z->b.size=f.size->R.Pairwise (·<·)->(∀i,i∈R↔i<f.size/\b.getD i true=false)->
   (∀i d,b.getD i false=true->m[i]?=some d->∀p∈d.dp,b.getD p false=true)->bH B w0 U0 nt β s a w->bR cf (todo m R) s=some s'->
   wpAny P .any f Q z b a w:=by
 obtain⟨xc,xd⟩:=fI _ _ hm;have V:=uW 0 _ _ ho;simp only[jz]at xc;have C:∀(b:Array Bool) (i:Nat),i∈Region.ready .any f b↔i<f.size/\b.getD i true=false/\∃o,f[i]?=some o/\∀p∈direct o,b.getD p false=true:=by
  intro b i;unfold Region.ready;simp only[List.mem_filter,List.mem_range,aO,jW];constructor
  .rintro⟨Z,h2,h3⟩;have n:=ni Z;rw[n]at h3;simp only[Option.map_some,il]at h3;refine⟨Z,h2,f[i],n,λp t=>?_⟩;unfold direct at t;obtain⟨e,N,rfl⟩:=List.mem_map.1 t;obtain⟨xw,E⟩:=List.mem_filter.1 N;have:=(tS.1 h3) e (by simpa using xw);simpa[E]using this
  .rintro⟨Z,h2,o,n,h3⟩;refine⟨Z,h2,?_⟩;rw[n];simp only[Option.map_some,il];rw[tS];intro e N;by_cases hb:Region.binds .any e=true
   .simp only[hb,Bool.not_true,Bool.false_or];exact h3 e.on (List.mem_map.2 ⟨e,List.mem_filter.2 ⟨by simpa using N,hb⟩,rfl⟩)
   .simp only[Gx]at hb;simp[hb]
 intro z;induction z with
 |zero=>
  intro b R s a w β hR O F j H g hd;have xx:R=[]:=List.eq_nil_of_length_eq_zero ae;subst xx;simp only[todo,List.filterMap_nil,bR,aw]at hd;subst hd;refine⟨?_,hQ _ _ _ g⟩;cases hr:Region.ready .any f b with
  |nil=>rfl
  |cons i r=>
   have:=(C b i).1 (by rw[hr];simp);exact absurd ((j i).2 ⟨this.1,this.2.1⟩) aB
 |succ z ih=>
  intro b R s a w β hR O F j H g hd;constructor
  .intro hr;cases xf:R with
   |nil=>
    subst xf;simp only[todo,List.filterMap_nil,bR,aw]at hd;subst hd;exact hQ _ _ _ g
   |cons i r=>
    exfalso;subst xf;obtain⟨hi,x2⟩:=(j i).1 aB;have n:=ni hi;have u:m[i]?=some (m[i]'ae):=List.getElem?_eq_getElem ae;obtain⟨k1,k2,_⟩:=V i _ _ (by rw[dZ];exact n) u;have:i∈Region.ready .any f b:=(C b i).2 ⟨hi,x2,_,n,λp t=>by
     have xz:=(k2 p (k1 p t)).1;have xg:p∉i::r:=by
      intro y0;rcases List.mem_cons.1 y0 with h|h
      .omega
      .have:=(List.pairwise_cons.1 F).1 p h;omega
     have x3:p<f.size:=ae;have I:¬b.getD p true=false:=λh=>xg ((j p).2 ⟨x3,h⟩)
     have xh:p<b.size:=ae;simp[xh]at I⊢;exact I⟩
    rw[hr]at this;simp at this
  .intro i y1;obtain⟨hi,x2,o,n,W⟩:=(C b i).1 y1;have u:m[i]?=some (m[i]'ae):=List.getElem?_eq_getElem ae;generalize yh:m[i]'ae=d at u;obtain⟨k1,k2,k3⟩:=V i o d (by rw[dZ];exact n) u;obtain⟨m1,m2,m3⟩:=xd i o d (by rw[dZ];exact n) u;have y2:i∈R:=(j i).2 ⟨hi,x2⟩;obtain⟨G,S,rfl⟩:=List.append_of_mem y2;have I:∀p∈d.dp,b.getD p false=true:=by
    intro p t;rcases(k2 p t).2 with h|⟨q,hq,e,N,v⟩
    .exact W p h
    .exact H q e (W q hq) N p v
   have hs:=List.pairwise_append.1 F;have x5:=List.pairwise_cons.1 hs.2.1;have y3:qT d (todo m S) s' (todo m G):=by
    have gen:∀(A B:List Nat),G=A++B->qT d (todo m S) s' (todo m B):=by
     intro A B;induction B generalizing A with
     |nil=>intro _;exact trivial
     |cons q B y4=>
      intro T;have xi:q∈G:=by rw[T];simp
      have ym:q<i:=hs.2.2 q xi i aB;have X:=y4 (A++[q]) (by rw[T];simp);cases J:m[q]? with
      |none=>simp only[todo,List.filterMap_cons,J];exact X
      |some e=>
       have et:todo m (q::B)=e::todo m B:=by simp only[todo,List.filterMap_cons,J]
       rw[et];refine⟨?_,X⟩;have D:∀p∈G,p∉d.dp:=by
        intro p t y5;have Z:=I p y5;have h2:=((j p).1 (by simp[t])).2;have x3:p<b.size:=by have:=((j p).1 (by simp[t])).1;omega
        simp[x3]at Z h2;rw[Z]at h2;cases h2
       have L:∀p e',p∈G->m[p]?=some e'->apart e' d=true:=by
        intro p e' t xj;have xz:p<i:=hs.2.2 p t i aB;rcases k3 p ae with h|⟨e2,E,c⟩|⟨_,c⟩
        .exact absurd h (D p t)
        .rw[xj]at E;cases E;unfold iy at c;simp only[aO]at c;exact c.1
        .unfold yA at c;rw[xj,show 0+i=i from ae,u]at c;simp only[aO]at c;exact c.1.1.1
       rcases k3 q ae with h|⟨e2,E,c⟩|⟨xk,c⟩
       .exact absurd h (D q xi)
       .rw[J]at E;cases E;exact .inl c
       .right;rw[show 0+i=i from ae]at xk c;unfold yA at c;rw[J,u]at c;simp only[aO,List.all_eq_true,List.mem_range]at c;obtain⟨⟨⟨c1,c2⟩,c3⟩,c4⟩:=c;refine⟨c1,c2,c3,?_,?_⟩
        .have:=List.all_eq_true.1 xb (q,i) xk;simp only[J,u]at this;exact this
        .intro o y7;have y8:∃p,p∈B++S/\m[p]?=some o:=by
          rcases List.mem_append.1 y7 with h|h
          .obtain⟨p,t,v⟩:=List.mem_filterMap.1 h;exact⟨p,by simp[t],v⟩
          .obtain⟨p,t,v⟩:=List.mem_filterMap.1 h;exact⟨p,by simp[t],v⟩
         obtain⟨p,t,v⟩:=y8;have xl:p<m.length:=by
          rcases cK p m.length with h|h
          .exact h
          .rw[List.getElem?_eq_none h]at v;cases v
         have c5:=c4 p xl;rw[v]at c5;simp only[aO,iT,cp]at c5;have xn:G.Pairwise (·<·):=hs.1;rw[T]at xn;have xo:=List.pairwise_cons.1 (List.pairwise_append.1 xn).2.1;rcases List.mem_append.1 t with xp|y9
         .have yt:q<p:=xo.1 p xp;refine⟨by rcases c5.1 with h|h<;>first|exact h|omega,Ea (L p o (by rw[T];simp[xp]) v)⟩
         .have yu:i<p:=x5.1 p y9;refine⟨by rcases c5.1 with h|h<;>first|exact h|omega,by rcases c5.2 with h|h<;>first|exact h|omega⟩
    exact gen [] G rfl
   have x6:todo m (G++i::S)=todo m G++d::todo m S:=by
    simp only[todo,List.filterMap_append,List.filterMap_cons,u]
   rw[x6]at hd;have l:=rN _ _ y3 hd;simp only[bR]at l;cases x7:cM cf d s with
   |none=>rw[x7]at l;cases l
   |some s1=>
    rw[x7]at l;have aH:∀k,(b.setIfInBounds i true).getD k true=if k=i then true else b.getD k true:=by
     intro k;rw[dA,dA];by_cases e:k=i
     .subst e;simp[O,hi]
     .rw[kL (λh=>e h.symm),an e]
    have M:∀k,(b.setIfInBounds i true).getD k false=true↔k=i\/b.getD k false=true:=by
     intro k;rw[dA,dA];by_cases e:k=i
     .subst e;simp[O,hi]
     .rw[kL (λh=>e h.symm)];simp[e]
    have xq:=jk (P:=P) (ops:=f) (Q:=Q) hc g m1 m2 m3 x7 (K:=wpAny P .any f Q z (b.setIfInBounds i true)) λa' w' Y g'=>by
     refine ih (b.setIfInBounds i true) (G++S) s1 a' w' Y (by simp at hR⊢;omega) (by simp[O]) ?_ ?_ ?_ g' ?_
     .refine List.pairwise_append.2 ⟨hs.1,x5.2,λx hx y hy=>hs.2.2 x hx y (by simp[hy])⟩
     .intro k;rw[aH];constructor
      .intro hk;have ya:k∈G++i::S:=by
        rcases List.mem_append.1 hk with h|h
        .exact List.mem_append.2 (.inl h)
        .exact List.mem_append.2 (.inr (by simp[h]))
       obtain⟨g1,g2⟩:=(j k).1 ya;have x8:k≠i:=by
        rintro rfl;rcases List.mem_append.1 hk with h|h
        .have:=hs.2.2 k h k aB;omega
        .have:=x5.1 k h;omega
       rw[an x8];exact⟨g1,g2⟩
      .rintro⟨g1,g2⟩;split at g2
       .cases g2
       .rename_i x8;have:=(j k).2 ⟨g1,g2⟩;rcases List.mem_append.1 this with h|h
        .exact List.mem_append.2 (.inl h)
        .rcases List.mem_cons.1 h with h|h
         .exact absurd h x8
         .exact List.mem_append.2 (.inr h)
     .intro k e hk N p t;rw[M];rcases(M k).1 hk with h|h
      .subst h;rw[u]at N;cases N;exact .inr (I p t)
      .exact .inr (H k e h N p t)
     .rw[show todo m (G++S)=todo m G++todo m S from by simp[todo,List.filterMap_append]];exact l
    unfold wpOp;rw[n];exact xq
def Cp(u:bS P cf)(f:P.follows .mixedOrders=true){id:Nat}{b:Array Oper}{c:List (Nat×Nat)}{k:List ai}(p:b4 P nt.bd b b.toList k=true)(x:ma c k 0 b.toList k=true)(g:bH B w0 U0 nt β s a w){m:St}(n:bR cf k s=some m)(l:jg c k m.env=true)
  {Q:Exit->Act->World->Prop}(y:∀q r o,bH B w0 U0 nt o m q r->Q .normal q r):(Code.region id b true).wp P Q a w:=by
 refine wp_region_any f ?_;obtain⟨e,_⟩:=fI _ _ p;simp only[jz]at e;have z:bH B w0 U0 nt β s a w.drew:=by
  obtain⟨A,k1⟩:=g.mem.call (eA w.heap.size w);refine⟨A,λi d n=>?_,g.size,g.defers,g.keeps.trans k1,g.cn,g.marks⟩;obtain⟨v,C,D⟩:=g.env i d n;exact⟨v,C,D.cn k1 (ku.refl _ _ _)⟩
 refine I3 u p x l y b.size (Array.replicate b.size false) (List.range b.size) s a w.drew β aB aB (by rw[List.pairwise_iff_getElem];intro i j t E h;simpa using h) (λi=>?_) (λi d h _=>?_) z ?_
 .simp only[List.mem_range];constructor
  .intro h;exact⟨h,by simp[h]⟩
  .exact λh=>h.1
 .exfalso;by_cases t:i<b.size<;>simp[t]at h
 .rw[e,zu];exact n
end
end
end Go.Dv
