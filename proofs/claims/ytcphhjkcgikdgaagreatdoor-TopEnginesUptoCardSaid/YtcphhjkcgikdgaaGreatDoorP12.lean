/- Lemmas for the law of this claim. -/
import Derived.Test.YtcphhjkcgikdgaaGreatDoorP10
import Derived.Test.YtcphhjkcgikdgaaGreatDoorP11
set_option linter.all false
namespace Go.Dv
section
open Go.RowKit
def lz(s:St)(x:DO):s.ev x=zv s.env x:=by cases x<;>rfl
def oe{v:DV}(h:v.flat=true)(H f:Heap):aS f dep v=aS H dep v/\fg H dep v=[]:=by
 cases v with
 |p q=>exact⟨rfl,rfl⟩
 |agg b=>
  have d:∀c∈b,∃q,c=.p q:=by
   intro c d;have:=List.all_eq_true.1 h c d;cases c<;>simp at this
   exact⟨_,rfl⟩
  constructor
  .have e:bP (aS f 4) b=bP (aS H 4) b:=j3 b λa i=>by obtain⟨q,rfl⟩:=d a i;rfl
   show(match bP (aS f 4) b with|some l=>some (PV.agg l)|none=>none)=_
   rw[e];rfl
  .show b.flatMap (fg H 4)=[]
   rw[List.flatMap_eq_nil_iff];intro c g;obtain⟨q,rfl⟩:=d c g;rfl
 |_=>simp[DV.flat]at h
def tN{H b:Heap}(a:Nat):∀(l:List (Nat×DV)) (k:Nat),(∀p∈l,p.2.flat=true)->dv b a k l=dv H a k l
 |[],_,_=>rfl
 |(i,v)::r,k,h=>by
   simp only[dv];rw[(oe (h (i,v) az) H b).1,tN a r (k+1) λp c=>h p (by simp[c])]
def CC{s:St}:∀(c:List (Nat×DO)) (l:List (Nat×DV)),c.all (λp=>oY s.env p.2)=true->ja s c=some l->∀p∈l,p.2.flat=true
 |[],l,_,h=>by simp only[ja,ay]at h;subst h;simp
 |(o,x)::r,l,a,h=>by
   simp only[List.all_cons,aL]at a;simp only[ja]at h;split at h
   .rename_i v q d e;cases h;intro p b;rcases List.mem_cons.1 b with rfl|b
    .have:=a.1;unfold oY at this;rw[<-lz,d]at this;exact this
    .exact CC r q a.2 e p b
   .cases h
def FV{s:St}:∀(c:List DO) (l:List DV),c.all (oY s.env)=true->gH s c=some l->∀p∈l,p.flat=true
 |[],l,_,h=>by simp only[gH,ay]at h;subst h;simp
 |x::r,l,a,h=>by
  simp only[List.all_cons,aL]at a;simp only[gH]at h;split at h
  .rename_i v q d e;cases h;intro p b;rcases List.mem_cons.1 b with rfl|b
   .have:=a.1;unfold oY at this;rw[<-lz,d]at this;exact this
   .exact FV r q a.2 e p b
  .cases h
def Hz{E:aK}{d:dX}{s:St}(c:eo s.env d=some none){v:DV}{K:Heap}{L:Nat}(h:bf E d s=some (v,K,L)):
  K=s.heap/\L=s.next/\∀(H:Heap) (n:Nat),bf E d {s with heap:=H,next:=n}=some (v,H,n):=by
 have g:∀(H:Heap) (j:Nat) (x:DO),St.ev {s with heap:=H,next:=j} x=s.ev x:=λH j x=>du λ_ _=>rfl
 have t:∀(H:Heap) (j:Nat) (x:List DO),gH {s with heap:=H,next:=j} x=gH s x:=λH j x=>jE _ λ_ _=>rfl
 have w:∀(H:Heap) (j:Nat) (x:List (Nat×DO)),ja {s with heap:=H,next:=j} x=ja s x:=λH j x=>oS _ λ_ _=>rfl
 cases d<;>try(simp[eo]at c;done)
 case load k x=>
  simp only[eo,<-lz]at c;simp only[bf,g]at h⊢;cases e:s.ev x with
  |none=>rw[e]at h;cases h
  |some q=>
   rw[e]at h c;cases q with
   |p q=>
    cases q<;>simp only at h<;>try(cases h;done)
    cases k with
    |none|some k=>simp only at h⊢;split at h<;>cases h;exact⟨rfl,rfl,λ_ _=>rfl⟩
   |_=>simp at c
 case fieldAddr o x=>
  simp only[eo,<-lz]at c;simp only[bf,g]at h⊢;cases e:s.ev x with
  |none=>rw[e]at h;cases h
  |some q=>
   rw[e]at h c;cases q with
   |p q=>
    cases q<;>simp only at h<;>try(cases h;done)
    cases h;exact⟨rfl,rfl,λ_ _=>rfl⟩
   |_=>simp at c
 case nilCheck x=>
  simp only[eo,<-lz]at c;simp only[bf,g]at h⊢;cases e:s.ev x with
  |none=>rw[e]at h;cases h
  |some q=>
   rw[e]at h c;cases q with
   |p q=>
    simp only at h⊢;split at h
    case isFalse=>cases h
    rename_i y;cases h;refine⟨rfl,rfl,λH n=>?_⟩;rw[aq (by cases q<;>first|rfl|(simp[kF]at y))]
   |_=>simp at c
 case indexAddr z x i=>
  simp only[eo,<-lz]at c;simp only[bf,g]at h⊢;cases e:s.ev x with
  |none=>rw[e]at h;cases h
  |some q=>
   rw[e]at h c;cases q with
   |p q=>
    cases M:s.ev i with
    |none=>rw[M]at h;cases q<;>cases h
    |some u=>
     rw[M]at h;split at h
     .rename_i F N;cases F;cases N;split at h
      .rename_i O;split at h
       .rename_i P;split at h
        .rename_i Q;cases h;refine⟨rfl,rfl,λ_ _=>?_⟩;simp only[aq O,P,aq Q]
        .cases h
       .cases h
      .cases h
     .rename_i F _;cases F
     .cases h
   |_=>simp at c
 case buildSlice z R D=>
  simp only[eo]at c;split at c
  .rename_i A;simp only[bf,w]at h⊢;cases m:ja s D with
   |none=>rw[m]at h;cases h
   |some l=>
    have B:=CC D l A m;rw[m]at h;simp only at h⊢;cases G:dv s.heap z.length 0 l with
    |none=>rw[G]at h;cases h
    |some S=>
     rw[G]at h;cases h;have C:∀H:Heap,(l.map (·.2)).flatMap (fg H dep)=[]:=by
      intro H;rw[List.flatMap_eq_nil_iff];intro v e;obtain⟨p,y,rfl⟩:=List.mem_map.1 e;exact(oe (B p y) H H).2
     refine⟨by rw[C];rfl,rfl,λH n=>?_⟩
     rw[tN _ l 0 B,G];simp only;rw[C];rfl
  .cases c
 case call b f args=>
  cases b with
  |true=>simp[eo]at c
  |false=>
   simp only[eo]at c;split at c
   .rename_i A;simp only[bf,t]at h⊢;cases m:gH s args with
    |none=>rw[m]at h;cases h
    |some l=>
     have B:=FV args l A m;rw[m]at h;simp only[jk,Bool.false_eq_true,cK]at h⊢;have C:∀H:Heap,l.flatMap (fg H dep)=[]:=by
      intro H;rw[List.flatMap_eq_nil_iff];exact λv e=>(oe (B v e) H H).2
     have y:∀H:Heap,bP (aS H dep) l=bP (aS s.heap dep) l:=λH=>j3 l λa A=>(oe (B a A) s.heap H).1
     cases I:bP (aS s.heap dep) l with
     |none=>rw[I]at h;cases h
     |some D=>
      rw[I]at h;simp only at h;cases J:E.pure f D with
      |none=>rw[J]at h;cases h
      |some r=>
       rw[J]at h;simp only[ay,bY]at h;obtain⟨rfl,rfl,rfl⟩:=h;refine⟨by rw[C];split<;>rfl,rfl,λH n=>?_⟩
       rw[y,I];simp only[J];rw[C];simp only[dp,ite_self]
   .cases c
def QC{y:aK}{d:dX}{s:St}{j:Nat}(a:eo s.env d=some (some j)){v:DV}{A:Heap}{B:Nat}(h:bf y d s=some (v,A,B)):
  A=s.heap/\B=s.next/\True/\∀(H:Heap) (n:Nat),ag H j=ag s.heap j->bf y d {s with heap:=H,next:=n}=some (v,H,n):=by
 have l:∀(H:Heap) (C:Nat) (x:DO),St.ev {s with heap:=H,next:=C} x=s.ev x:=λH C x=>du λ_ _=>rfl
 cases d<;>try(simp[eo]at a;done)
 case load k x=>
  simp only[eo,<-lz]at a;simp only[bf,l]at h⊢;cases c:s.ev x with
  |none=>rw[c]at h;cases h
  |some q=>
   rw[c]at h a;cases q with
   |ptr i off=>
    simp only[ay]at a;subst a;simp only at h⊢;cases g:ag s.heap i with
    |none=>rw[g]at h;cases h
    |some b=>
     rw[g]at h;cases b with
     |row f t w|map f D|aV f t w=>cases h
     |var f m=>
      cases k with
      |none|some k=>simp only at h;split at h<;>cases h;rename_i e;refine⟨rfl,rfl,trivial,λH n r=>?_⟩;rw[r];simp only[e]
   |_=>simp at a
 case fieldAddr o x=>
  simp only[eo,<-lz]at a;simp only[bf,l]at h⊢;cases c:s.ev x with
  |none=>rw[c]at h;cases h
  |some q=>
   rw[c]at h a;cases q with
   |ptr i off=>
    simp only[ay]at a;subst a;simp only at h⊢;cases g:ag s.heap i with
    |none=>rw[g]at h;cases h
    |some b=>
     rw[g]at h;cases b with
     |row f t w|map f D|aV f t w=>cases h
     |var f m=>cases h;refine⟨rfl,rfl,trivial,λH n r=>?_⟩;rw[r]
   |_=>simp at a
 case nilCheck x=>
  simp only[eo,<-lz]at a;simp only[bf,l]at h⊢;cases c:s.ev x with
  |none=>rw[c]at h;cases h
  |some q=>
   rw[c]at h a;cases q with
   |ptr i off=>
    simp only[ay]at a;subst a;simp only at h⊢;split at h
    case isFalse=>cases h
    rename_i E;cases h;have c:∃f m,ag s.heap i=some (.var f m):=by
     cases g:ag s.heap i with
     |none=>simp[kF,g]at E
     |some b=>cases b with
      |var f m=>exact⟨f,m,rfl⟩
      |_=>simp[kF,g]at E
    obtain⟨f,m,g⟩:=c;refine⟨rfl,rfl,trivial,λH n r=>?_⟩;rw[aq (by simp[kF,r,g])]
   |_=>simp at a
 case indexAddr z x i=>
  simp only[eo,<-lz]at a;simp only[bf,l]at h⊢;cases c:s.ev x with
  |none=>rw[c]at h;cases h
  |some q=>
   rw[c]at h a;cases q with
   |ref id G off k=>
    simp only[ay]at a;subst a;cases F:s.ev i with
    |none=>rw[F]at h;cases h
    |some u=>
     rw[F]at h;cases u with
     |p u=>
      cases u with
      |int I n=>
       simp only at h⊢;cases g:ag s.heap id with
       |none=>rw[g]at h;cases h
       |some b=>
        rw[g]at h;cases b with
        |var f m|map f D=>cases h
        |row f t w|aV f t w=>simp only at h;split at h<;>cases h;rename_i e;refine⟨rfl,rfl,trivial,λH n r=>?_⟩;rw[r];simp only[e,and_self,cQ]
      |_=>cases h
     |_=>cases h
   |_=>simp at a
 case call b f args=>
  cases b with
  |true=>simp[eo]at a
  |false=>simp only[eo]at a;split at a<;>simp at a
def Ps{A:aK}{d:dX}{s:St}{j:Nat}{r:Option DV}(c:il s.env j r d=true){v:DV}{t:Heap}{B:Nat}(h:bf A d s=some (v,t,B))(w:∀u,r=some u->u=v):
  ag t j=ag s.heap j:=by
 cases d<;>try(simp[il]at c;done)
 case store k a x=>
  simp only[il,<-lz]at c;simp only[bf]at h;cases o:s.ev a with
  |none=>rw[o]at h;simp at h
  |some q=>
   rw[o]at h c;cases q with
   |ptr i off=>
    have g:¬i=j:=by simpa using c
    cases m:s.ev x with
    |none=>rw[m]at h;simp at h
    |some u=>
     rw[m]at h;simp only at h;split at h
     .split at h
      .cases h;rw[aA,ak g]
      .cases h
     .cases h
   |_=>simp at c
 case jv z x=>
  simp only[il]at c;cases r with
  |none=>simp at c
  |some u=>
   obtain rfl:=w u rfl;simp only at c;simp only[bf]at h;cases m:s.ev x with
   |none=>rw[m]at h;cases h
   |some q=>
    rw[m]at h;simp only at h;split at h
    case h_2=>cases h
    split at h
    case isFalse=>cases h
    cases h;have g:¬s.next=j:=by simpa[sI]using c
    rw[aw,ak g]
 case ni b z a x=>
  simp only[il]at c;cases r with
  |none=>simp at c
  |some u=>
   obtain rfl:=w u rfl;simp only at c;simp only[bf]at h;cases o:s.ev a with
   |none=>rw[o]at h;cases h
   |some p=>
   cases m:s.ev x with
   |none=>rw[o,m]at h;cases h
   |some q=>
    rw[o,m]at h;simp only[sh]at h;split at h
    case h_2=>cases h
    split at h
    case h_2=>cases h
    split at h
    case isFalse=>cases h
    rename_i id _ _ _ _ _ _ _ _ _ _ _ _ _ _ _ _ _;cases h;have g:¬id=j:=by simpa[sI]using c
    rw[aA,ak g]
 case jT f E=>
  simp only[il]at c;cases r with
  |none=>simp at c
  |some u=>
   obtain rfl:=w u rfl;simp only at c;simp only[bf]at h;cases m:gH s E with
   |none=>rw[m]at h;cases h
   |some l=>
    rw[m]at h;simp only at h;cases C:A.dq f l s.heap s.next with
    |none=>rw[C]at h;cases h
    |some q=>
     obtain⟨H,I,J⟩:=q;rw[C]at h;simp only at h;split at h
     case isFalse=>cases h
     rename_i F;cases h;obtain⟨⟨G,off,n,rfl⟩,b,rfl⟩:=F;have g:¬s.next=j:=by simpa[sI]using c
     rw[aw,ak g]
 case append b z a x=>
  simp only[il]at c;cases r with
  |none=>simp at c
  |some u=>
   obtain rfl:=w u rfl;simp only at c;have y:∀(D:List (List PV)) (q:DV),jq b z D q s.heap s.next=some (u,t,B)->ag t j=ag s.heap j:=by
    intro D q e;unfold jq at e;split at e
    .split at e
     .split at e
      .cases e;rfl
      .simp only[ay,bY]at e;obtain⟨rfl,rfl,rfl⟩:=e;have g:¬s.next=j:=by simpa[sI]using c
       rw[aw,ak g]
     .split at e
      .cases e;rfl
      .cases e
    .split at e
     .split at e
      .simp only[ay,bY]at e;obtain⟨rfl,rfl,rfl⟩:=e;rename_i id _ _ _ _ _ _ _ _;have g:¬id=j:=by simpa[sI]using c
       rw[aA,ak g]
      .cases e
     .cases e
    .cases e
   simp only[bf]at h;split at h
   .split at h
    .split at h
     .exact y _ _ h
     .cases h
    .cases h
   .cases h
def C5{i j:Nat}(h:i≠j)(a b:bq):∀H:Heap,aC (aC H i a) j b=aC (aC H j b) i a
 |[]=>rfl
 |(k,v)::r=>by
   have g:=C5 h a b r;simp only[aC];by_cases f:k=i
   .subst f;have d:(k==j)=false:=by simpa using h
    simp[aC,d]
   .have c:(k==i)=false:=by simpa using f
    by_cases d:k=j
    .subst d;simp[aC,c]
    .have e:(k==j)=false:=by simpa using d
     simp[aC,c,e,g]
def Mv{C:aK}{d:dX}{s:St}{i:Nat}(c:storeAt s.env d=some i){v:DV}{D:Heap}{E:Nat}(h:bf C d s=some (v,D,E)):
  E=s.next/\∃b,D=aC s.heap i b/\∀(H:Heap) (n:Nat),ag H i=ag s.heap i->bf C d {s with heap:=H,next:=n}=some (v,aC H i b,n):=by
 have o:∀(H:Heap) (F:Nat) (x:DO),St.ev {s with heap:=H,next:=F} x=s.ev x:=λH F x=>du λ_ _=>rfl
 cases d<;>try(simp[storeAt]at c;done)
 case store k a x=>
  simp only[storeAt,<-lz]at c;simp only[bf,o]at h⊢;cases G:s.ev a with
  |none=>rw[G]at h;simp at h
  |some q=>
   rw[G]at h c;cases p:s.ev x with
   |none=>rw[p]at h;cases q<;>simp at h
   |some u=>
    rw[p]at h;cases q with
    |ptr id off=>
     simp only[ay]at c;subst c;simp only at h⊢;cases j:ag s.heap id with
     |none=>rw[j]at h;cases h
     |some b=>
      rw[j]at h;cases b with
      |var f N=>
       cases f with
       |true=>simp at h
       |false=>
        cases I:u.cells with
        |none=>rw[I]at h;simp at h
        |some l=>
         rw[I]at h;simp only at h;split at h
         .rename_i e;cases h;refine⟨rfl,_,rfl,λH n m=>?_⟩;rw[m];simp only[e,and_self,cQ]
         .cases h
      |_=>simp at h
    |dA id J O off=>
     simp only at c;split at c
     .rename_i r;simp only[ay]at c;subst c;have g:u.flat=true:=by
       unfold oY at r;rw[<-lz,p]at r;exact r
      simp only at h⊢;cases j:ag s.heap id with
      |none=>rw[j]at h;cases h
      |some b=>
       rw[j]at h;cases b with
       |row f K L=>
        cases f with
        |true=>simp at h
        |false=>
         have M:=λH=>oe g s.heap H
         have t:=(oe g s.heap s.heap).2;simp only[t,dp,List.not_mem_nil,not_false_eq_true,and_true]at h;cases z:aS s.heap dep u with
         |none=>rw[z]at h;cases h
         |some w=>
          rw[z]at h;simp only at h;split at h
          .rename_i y l A B;split at h
           .rename_i e;cases h;refine⟨rfl,_,rfl,λH n m=>?_⟩;rw[m];simp only[(M H).1,(oe g H H).2,z,A,B,e,dp,List.not_mem_nil,not_false_eq_true,and_true,and_self,cQ]
           .cases h
          .cases h
       |aV f K L=>
        cases f with
        |true=>simp at h
        |false=>
         simp only at h;split at h
         .rename_i y l A B;split at h
          .rename_i e;cases h;refine⟨rfl,_,rfl,λH n m=>?_⟩;rw[m];simp only[A,B,e,and_self,cQ]
          .cases h
         .cases h
       |_=>simp at h
     .cases c
    |_=>simp at c
end
section
open Go.RowKit
section
variable{cf:aK}
def Step.reads{x:aj}{s:St}{v:DV}{H:Heap}{n:Nat}{q:Option Nat}(k:eo s.env x.op=some q)(h:Step cf x s v H n):
  H=s.heap/\n=s.next/\∀(d:Heap) (f:Nat),(∀j,q=some j->ag d j=ag s.heap j)->Step cf x {s with heap:=d,next:=f} v d f:=by
 rcases h with⟨g,i,l,m⟩|⟨g,i⟩
 .exact⟨l,m,λd f _=>.inl ⟨g,i,rfl,rfl⟩⟩
 .cases q with
  |none=>
   obtain⟨a,b,c⟩:=Hz k i;exact⟨a,b,λd f _=>.inr ⟨g,c d f⟩⟩
  |some j=>
   obtain⟨a,b,_,c⟩:=QC k i;exact⟨a,b,λd f e=>.inr ⟨g,c d f (e j rfl)⟩⟩
def Step.keeps{x:aj}{s:St}{v:DV}{H:Heap}{n j:Nat}{r:Option DV}(b:il s.env j r x.op=true)(h:Step cf x s v H n)(c:∀u,r=some u->u=v):ag H j=ag s.heap j:=by
 rcases h with⟨d,a,e,f⟩|⟨d,a⟩
 .rw[e]
 .exact Ps b a c
def tE(i:Nat)(o:Option bq)(H:Heap):Heap:=match o with
 |some b=>aC H i b
 |none=>H
def JC{i j:Nat}(h:i≠j)(o:Option bq)(H:Heap):ag (tE i o H) j=ag H j:=by
 cases o with
 |none=>rfl
 |some b=>simp only[tE,aA,ak h]
def Mq{i j:Nat}(h:i≠j)(o a:Option bq)(H:Heap):tE j a (tE i o H)=tE i o (tE j a H):=by
 cases o<;>cases a<;>simp only[tE]
 exact C5 h _ _ H
def Step.store{x:aj}{s:St}{v:DV}{H:Heap}{n i:Nat}(l:storeAt s.env x.op=some i)(h:Step cf x s v H n):
  n=s.next/\∃o,H=tE i o s.heap/\∀(f:Heap) (g:Nat),ag f i=ag s.heap i->Step cf x {s with heap:=f,next:=g} v (tE i o f) g:=by
 rcases h with⟨j,k,m,p⟩|⟨j,k⟩
 .exact⟨p,none,m,λf g _=>.inl ⟨j,k,rfl,rfl⟩⟩
 .obtain⟨a,b,c,d⟩:=Mv l k;exact⟨a,some b,c,λf g e=>.inr ⟨j,d f g e⟩⟩
def oJ{e a:Env}{x:DO}(h:∀k∈x.rd,ag a k=ag e k):zv a x=zv e x:=by
 cases x with
 |t k=>exact h k (by simp[DO.rd])
 |c v=>rfl
def sF{e a:Env}{x:DO}(h:∀k∈x.rd,ag a k=ag e k):oY a x=oY e x:=by
 unfold oY;rw[oJ h]
def uJ{c:Type}{f g:c->Bool}:∀(l:List c),(∀a∈l,f a=g a)->l.all f=l.all g
 |[],_=>rfl
 |a::r,h=>by simp only[List.all_cons];rw[h a az,uJ r λb d=>h b (by simp[d])]
def oA{e g:Env}{d:dX}(h:∀k∈d.rd,ag g k=ag e k):eo g d=eo e d:=by
 cases d<;>try rfl
 case load k x|fieldAddr o x|nilCheck x=>simp only[eo];rw[oJ h]
 case indexAddr z x i=>simp only[eo];rw[oJ λk a=>h k (by simp only[dX.rd,List.mem_append];exact .inl a)]
 case buildSlice z l j=>
  simp only[eo];rw[uJ j λp c=>sF λk a=>h k (by simp only[dX.rd,List.mem_flatMap];exact⟨p,c,a⟩)]
 case call b f args=>
  cases b with
  |true=>rfl
  |false=>
   simp only[eo];rw[uJ args λp c=>sF λk a=>h k (by simp only[dX.rd,List.mem_flatMap];exact⟨p,c,a⟩)]
def l8{e b:Env}{j:Nat}{r:Option DV}{d:dX}(h:∀k∈d.rd,ag b k=ag e k):il b j r d=il e j r d:=by
 cases d<;>try rfl
 case store n a x=>simp only[il];rw[oJ λk c=>h k (by simp only[dX.rd,List.mem_append];exact .inl c)]
def kP{e c:Env}{d:dX}(h:∀k∈d.rd,ag c k=ag e k):storeAt c d=storeAt e d:=by
 cases d<;>try rfl
 case store n a x=>
  simp only[storeAt];rw[oJ λk b=>h k (by simp only[dX.rd,List.mem_append];exact .inl b),sF λk b=>h k (by simp only[dX.rd,List.mem_append];exact .inr b)]
def mB{x:aj}{k:Nat}(h:k∈x.op.rd):k∈x.rd:=by unfold aj.rd;exact List.mem_append.2 (.inr h)
def Nz{x y:aj}(C:apart x y=true)(D:∀k∈x.rd,x.dst≠some k)(E:∀k∈y.rd,y.dst≠some k){s M F:St}(P:cX cf x s=some M)(Q:cX cf y M=some F)(b:ue F.env x y=true):
  ∃r,cX cf y s=some r/\cX cf x r=some F:=by
 obtain⟨R,z,a3⟩:=apart_spec C;obtain⟨c,Hx,S,A,rfl⟩:=en.1 P;obtain⟨e,m,t,G,rfl⟩:=en.1 Q;have H:dF (dF s.env x.dst c) y.dst e=dF (dF s.env y.dst e) x.dst c:=xA a3;have I:∀k∈x.rd,ag (dF (dF s.env x.dst c) y.dst e) k=ag s.env k:=λk a=>by rw[dI (z k a),dI (D k a)]
 have J:∀k∈y.rd,ag (dF (dF s.env x.dst c) y.dst e) k=ag (dF s.env x.dst c) k:=λk a=>dI (E k a)
 have f:∀k∈y.rd,ag (dF s.env x.dst c) k=ag s.env k:=λk a=>dI (R k a)
 have T:∀u,uR (dF (dF s.env x.dst c) y.dst e) x.dst=some u->u=c:=by
  intro u g;cases p:x.dst with
  |none=>rw[p]at g;cases g
  |some k=>
   rw[p]at g;simp only[uR]at g;rw[dI (a3 k p)]at g;simp only[dF,kb,cQ]at g;exact(Hg g).symm
 have U:∀u,uR (dF (dF s.env x.dst c) y.dst e) y.dst=some u->u=e:=by
  intro u g;cases p:y.dst with
  |none=>rw[p]at g;cases g
  |some k=>
   rw[p]at g;simp only[uR,dF,kb,cQ]at g;exact(Hg g).symm
 unfold ue at b;rw[ji,ji]at b;rcases b with(b|b)|b
 ·
  rw[oA λk a=>I k (mB a)]at b;cases n:eo s.env x.op with
  |none=>rw[n]at b;cases b
  |some q=>
   obtain⟨rfl,rfl,l⟩:=A.reads n;have h:Step cf y s e m t:=by
    refine Step.congr ?_ ?_ ?_ G
    .exact λk a=>(f k a).symm
    .rfl
    .rfl
   have d:∀j,q=some j->ag m j=ag s.heap j:=by
    rintro j rfl;rw[n]at b;simp only at b;rw[l8 λk a=>(J k (mB a)).trans (f k (mB a))]at b;exact h.keeps b U
   refine⟨_,en.2 ⟨e,m,t,h,rfl⟩,en.2 ⟨c,m,t,?_,by rw[H]⟩⟩;refine Step.congr ?_ ?_ ?_ (l m t d)
   .exact λk a=>dI (z k a)
   .rfl
   .rfl
 ·
  rw[oA λk a=>J k (mB a)]at b;cases n:eo (dF s.env x.dst c) y.op with
  |none=>rw[n]at b;cases b
  |some q=>
   obtain⟨v,w,l⟩:=G.reads (s:={env:=dF s.env x.dst c,heap:=Hx,next:=S,marks:=s.marks}) n;simp only at v w l;subst v;subst w;have d:∀j,q=some j->ag s.heap j=ag m j:=by
    rintro j rfl;rw[n]at b;simp only at b;rw[l8 λk a=>I k (mB a)]at b;exact(A.keeps b T).symm
   have h:Step cf y s e s.heap s.next:=by
    refine Step.congr ?_ ?_ ?_ (l s.heap s.next d)
    .exact λk a=>(f k a).symm
    .rfl
    .rfl
   refine⟨_,en.2 ⟨e,s.heap,s.next,h,rfl⟩,en.2 ⟨c,m,t,?_,by rw[H]⟩⟩;refine Step.congr ?_ ?_ ?_ A
   .exact λk a=>dI (z k a)
   .rfl
   .rfl
 ·
  rw[kP λk a=>I k (mB a),kP λk a=>(J k (mB a)).trans (f k (mB a))]at b;cases B:storeAt s.env x.op with
  |none=>rw[B]at b;cases b
  |some i=>
   cases K:storeAt s.env y.op with
   |none=>rw[B,K]at b;cases b
   |some j=>
    rw[B,K]at b;have o:i≠j:=by simpa using b
    obtain⟨rfl,N,rfl,V⟩:=A.store B;obtain⟨v,L,w,O⟩:=G.store (s:={env:=dF s.env x.dst c,heap:=tE i N s.heap,next:=s.next,marks:=s.marks}) ((kP λk a=>f k (mB a)).trans K);simp only at v w O;subst v;subst w;have h:Step cf y s e (tE j L s.heap) s.next:=by
     refine Step.congr ?_ ?_ ?_ (O s.heap s.next (JC o N s.heap).symm)
     .exact λk a=>(f k a).symm
     .rfl
     .rfl
    refine⟨_,en.2 ⟨e,_,s.next,h,rfl⟩,en.2 ⟨c,_,s.next,?_,by rw[H]⟩⟩;rw[Mq o];refine Step.congr ?_ ?_ ?_ (V (tE j L s.heap) s.next (JC (dz o) L s.heap))
    .exact λk a=>dI (z k a)
    .rfl
    .rfl
end
end
section
open Go.RowKit
def yM{x:aj}(h:re x=true):∀k∈x.rd,x.dst≠some k:=by
 intro k a e;unfold re at h;rw[e]at h;simp at h;exact h a
def sv{o x:aj}(h:jr o x=true):(∀k∈x.rd,o.dst≠some k)/\∀k,x.dst=some k->o.dst≠some k:=by
 unfold jr at h;constructor
 .intro k a e;rw[e]at h;simp at h;exact h.1 a
 .intro k a e;rw[e]at h;simp at h;exact h.2 a
def Dh{o x:aj}(h:apart o x=true):jr o x=true:=by
 obtain⟨b,d,a3⟩:=apart_spec h;unfold jr;cases a:o.dst with
 |none=>rfl
 |some k=>
  simp only[aL,kD,GZ,tK];refine⟨?_,a3 k a⟩;cases c:x.rd.contains k with
  |false=>rfl
  |true=>exact absurd a (b k (by simpa using c))
section
variable{cf:aK}
def QQ{x:aj}{s a:St}(h:cX cf x s=some a){k:Nat}(b:x.dst≠some k):ag a.env k=ag s.env k:=by
 obtain⟨v,H,n,_,rfl⟩:=en.1 h;exact dI b
def FC:∀(l:List aj) (s a:St),bO cf l s=some a->∀k,(∀o∈l,o.dst≠some k)->ag a.env k=ag s.env k
 |[],s,a,h,k,_=>by simp only[bO,ay]at h;subst h;rfl
 |o::r,s,a,h,k,c=>by
  simp only[bO]at h;cases b:cX cf o s with
  |none=>rw[b]at h;cases h
  |some d=>
   rw[b]at h;rw[FC r d a h k λq e=>c q (by simp[e]),QQ b (c o az)]
def H4{e b:Env}{x y:aj}(c:∀k∈x.rd,ag b k=ag e k)(d:∀k∈y.rd,ag b k=ag e k)(f:∀k,x.dst=some k->ag b k=ag e k)(g:∀k,y.dst=some k->ag b k=ag e k):ue b x y=ue e x y:=by
 have i:uR b x.dst=uR e x.dst:=by
  cases h:x.dst with
  |none=>rfl
  |some k=>exact f k h
 have l:uR b y.dst=uR e y.dst:=by
  cases h:y.dst with
  |none=>rfl
  |some k=>exact g k h
 unfold ue;rw[oA λk a=>c k (mB a),oA λk a=>d k (mB a),kP λk a=>c k (mB a),kP λk a=>d k (mB a),i,l];congr 1;congr 1
 .cases eo e x.op with
  |none=>rfl
  |some q=>cases q with
   |none=>rfl
   |some j=>exact l8 λk a=>d k (mB a)
 .cases eo e y.op with
  |none=>rfl
  |some q=>cases q with
   |none=>rfl
   |some j=>exact l8 λk a=>c k (mB a)
def rX(i:aj)(a:List aj)(b:St):List aj->Prop
 |[]=>True
 |j::r=>(iE j i=true\/(apart j i=true/\re j=true/\re i=true/\ue b.env j i=true/\∀o∈r++a,jr o j=true/\jr o i=true))/\rX i a b r
def sA{i:aj}{f:List aj}{g:St}:∀(q:List aj) (s:St),rX i f g q->bO cf (q++i::f) s=some g->bO cf (i::(q++f)) s=some g
 |[],s,_,h=>h
 |j::r,s,C,h=>by
  obtain⟨t,u⟩:=C;simp only[List.cons_append,bO]at h;cases l:cX cf j s with
  |none=>rw[l]at h;cases h
  |some A=>
   rw[l]at h;have b:=sA r A u h;simp only[bO]at b;cases m:cX cf i A with
   |none=>rw[m]at b;cases b
   |some B=>
    rw[m]at b;simp only at b;have v:∃c,cX cf i s=some c/\cX cf j c=some B:=by
     rcases t with w|⟨x,y,z,e,n⟩
     .exact DI w l m
     .refine Nz x (yM y) (yM z) l m ?_;rw[<-e];have p:∀k,(∀o∈r++f,o.dst≠some k)->ag B.env k=ag g.env k:=λk a=>(FC _ _ _ b k a).symm
      exact H4 (λk a=>p k λo d=>(sv (n o d).1).1 k a) (λk a=>p k λo d=>(sv (n o d).2).1 k a)
       (λk a=>p k λo d=>(sv (n o d).1).2 k a) (λk a=>p k λo d=>(sv (n o d).2).2 k a)
    obtain⟨c,D,E⟩:=v;simp only[bO,D,List.cons_append,E];exact b
end
end
section
open Go.RowKit
section
variable{P:Program}{B:Nat}{w0:World}{U0:Nat->Prop}{β:Place}{w:World}{nt:Cx}{s:St}{a:Act}{cf:aK}
def vP{c:List (Nat×Nat)}{b:List aj}:∀(k:Nat) (g:List Oper) (l:List aj),mV c b k g l=true->∀(i:Nat) (o:Oper) (d:aj),g[i]?=some o->l[i]?=some d->
  (∀p∈direct o,p∈d.dy)/\(∀p∈d.dy,p<k+i/\(p∈direct o\/∃q∈direct o,∃e,b[q]?=some e/\p∈e.dy))/\∀j,j<k+i->j∈d.dy\/(∃e,b[j]?=some e/\iE e d=true)\/((j,k+i)∈c/\yP b j (k+i)=true)
 |k,[],[],_,i,o,d,h,_=>by simp at h
 |k,o::g,d::l,h,i,u,v,m,n=>by
  simp only[mV,aL]at h;obtain⟨⟨⟨x,y⟩,z⟩,A⟩:=h;cases i with
  |zero=>
   simp only[List.getElem?_cons_zero,ay]at m n;subst m;subst n;refine⟨λp t=>?_,λp t=>?_,λj C=>?_⟩
   .have:=List.all_eq_true.1 x p t;simpa using this
   .have:=List.all_eq_true.1 y p t;simp only[aL,df,ji,List.contains_iff_mem,List.any_eq_true]at this;refine⟨ae,?_⟩;rcases this.2 with h|⟨q,D,r⟩
    .exact .inl h
    .right;refine⟨q,D,?_⟩;cases f:b[q]? with
     |none=>rw[f]at r;cases r
     |some e=>rw[f]at r;exact⟨e,rfl,by simpa using r⟩
   .have:=List.all_eq_true.1 z j (by simpa using C);simp only[ji,aL,List.contains_iff_mem]at this;rcases this with(h|h)|h
    .exact .inl h
    .right;left;cases f:b[j]? with
     |none=>rw[f]at h;cases h
     |some e=>rw[f]at h;exact⟨e,rfl,h⟩
    .exact .inr (.inr (by simpa using h))
  |succ i=>
   simp only[List.getElem?_cons_succ]at m n;have:=vP (k+1) g l A i u v m n;rw[show k+(i+1)=k+1+i from ae];exact this
 |k,[],_::_,h,_,_,_,_,_=>by simp[mV]at h
 |k,_::_,[],h,_,_,_,_,_=>by simp[mV]at h
def K1{U:List (Nat×Nat)}(hc:bV P cf){f:Array Oper}{m:List aj}(hm:cm P nt.bd f f.toList m=true)(ho:mV U m 0 f.toList m=true){Q:Exit->Act->World->Prop}{s':St}(xb:ju U m s'.env=true)(hQ:∀a' w' Y,bJ B w0 U0 nt Y s' a' w'->Q .normal a' w'):
  ∀(z:Nat) (b:Array Bool) (R:List Nat) (s:St) (a:Act) (w:World) (β:Place),R.length<=z->b.size=f.size->R.Pairwise (·<·)->(∀i,i∈R↔i<f.size/\b.getD i true=false)->
   (∀i d,b.getD i false=true->m[i]?=some d->∀p∈d.dy,b.getD p false=true)->bJ B w0 U0 nt β s a w->bO cf (todo m R) s=some s'->
   wpAny P .any f Q z b a w:=by
 obtain⟨xc,xd⟩:=fZ _ _ hm;have V:=vP 0 _ _ ho;simp only[jV]at xc;have C:∀(b:Array Bool) (i:Nat),i∈Region.ready .any f b↔i<f.size/\b.getD i true=false/\∃o,f[i]?=some o/\∀p∈direct o,b.getD p false=true:=by
  intro b i;unfold Region.ready;simp only[List.mem_filter,List.mem_range,aL,kD];constructor
  .rintro⟨Z,h2,h3⟩;have n:=nW Z;rw[n]at h3;simp only[Option.map_some,ka]at h3;refine⟨Z,h2,f[i],n,λp t=>?_⟩;unfold direct at t;obtain⟨e,N,rfl⟩:=List.mem_map.1 t;obtain⟨xw,E⟩:=List.mem_filter.1 N;have:=(tW.1 h3) e (by simpa using xw);simpa[E]using this
  .rintro⟨Z,h2,o,n,h3⟩;refine⟨Z,h2,?_⟩;rw[n];simp only[Option.map_some,ka];rw[tW];intro e N;by_cases hb:Region.binds .any e=true
   .simp only[hb,Bool.not_true,Bool.false_or];exact h3 e.on (List.mem_map.2 ⟨e,List.mem_filter.2 ⟨by simpa using N,hb⟩,rfl⟩)
   .simp only[CN]at hb;simp[hb]
 intro z;induction z with
 |zero=>
  intro b R s a w β hR O F j H g hd;have xx:R=[]:=List.eq_nil_of_length_eq_zero ae;subst xx;simp only[todo,List.filterMap_nil,bO,ay]at hd;subst hd;refine⟨?_,hQ _ _ _ g⟩;cases hr:Region.ready .any f b with
  |nil=>rfl
  |cons i r=>
   have:=(C b i).1 (by rw[hr];simp);exact absurd ((j i).2 ⟨this.1,this.2.1⟩) az
 |succ z ih=>
  intro b R s a w β hR O F j H g hd;constructor
  .intro hr;cases xf:R with
   |nil=>
    subst xf;simp only[todo,List.filterMap_nil,bO,ay]at hd;subst hd;exact hQ _ _ _ g
   |cons i r=>
    exfalso;subst xf;obtain⟨hi,x2⟩:=(j i).1 az;have n:=nW hi;have u:m[i]?=some (m[i]'ae):=List.getElem?_eq_getElem ae;obtain⟨k1,k2,_⟩:=V i _ _ (by rw[eG];exact n) u;have:i∈Region.ready .any f b:=(C b i).2 ⟨hi,x2,_,n,λp t=>by
     have xz:=(k2 p (k1 p t)).1;have xg:p∉i::r:=by
      intro y0;rcases List.mem_cons.1 y0 with h|h
      .omega
      .have:=(List.pairwise_cons.1 F).1 p h;omega
     have x3:p<f.size:=ae;have I:¬b.getD p true=false:=λh=>xg ((j p).2 ⟨x3,h⟩)
     have xh:p<b.size:=ae;simp[xh]at I⊢;exact I⟩
    rw[hr]at this;simp at this
  .intro i y1;obtain⟨hi,x2,o,n,W⟩:=(C b i).1 y1;have u:m[i]?=some (m[i]'ae):=List.getElem?_eq_getElem ae;generalize yh:m[i]'ae=d at u;obtain⟨k1,k2,k3⟩:=V i o d (by rw[eG];exact n) u;obtain⟨m1,m2,m3⟩:=xd i o d (by rw[eG];exact n) u;have y2:i∈R:=(j i).2 ⟨hi,x2⟩;obtain⟨G,S,rfl⟩:=List.append_of_mem y2;have I:∀p∈d.dy,b.getD p false=true:=by
    intro p t;rcases(k2 p t).2 with h|⟨q,hq,e,N,v⟩
    .exact W p h
    .exact H q e (W q hq) N p v
   have hs:=List.pairwise_append.1 F;have x5:=List.pairwise_cons.1 hs.2.1;have y3:rX d (todo m S) s' (todo m G):=by
    have gen:∀(A B:List Nat),G=A++B->rX d (todo m S) s' (todo m B):=by
     intro A B;induction B generalizing A with
     |nil=>intro _;exact trivial
     |cons q B y4=>
      intro T;have xi:q∈G:=by rw[T];simp
      have ym:q<i:=hs.2.2 q xi i az;have X:=y4 (A++[q]) (by rw[T];simp);cases J:m[q]? with
      |none=>simp only[todo,List.filterMap_cons,J];exact X
      |some e=>
       have et:todo m (q::B)=e::todo m B:=by simp only[todo,List.filterMap_cons,J]
       rw[et];refine⟨?_,X⟩;have D:∀p∈G,p∉d.dy:=by
        intro p t y5;have Z:=I p y5;have h2:=((j p).1 (by simp[t])).2;have x3:p<b.size:=by have:=((j p).1 (by simp[t])).1;omega
        simp[x3]at Z h2;rw[Z]at h2;cases h2
       have L:∀p e',p∈G->m[p]?=some e'->apart e' d=true:=by
        intro p e' t xj;have xz:p<i:=hs.2.2 p t i az;rcases k3 p ae with h|⟨e2,E,c⟩|⟨_,c⟩
        .exact absurd h (D p t)
        .rw[xj]at E;cases E;unfold iE at c;simp only[aL]at c;exact c.1
        .unfold yP at c;rw[xj,show 0+i=i from ae,u]at c;simp only[aL]at c;exact c.1.1.1
       rcases k3 q ae with h|⟨e2,E,c⟩|⟨xk,c⟩
       .exact absurd h (D q xi)
       .rw[J]at E;cases E;exact .inl c
       .right;rw[show 0+i=i from ae]at xk c;unfold yP at c;rw[J,u]at c;simp only[aL,List.all_eq_true,List.mem_range]at c;obtain⟨⟨⟨c1,c2⟩,c3⟩,c4⟩:=c;refine⟨c1,c2,c3,?_,?_⟩
        .have:=List.all_eq_true.1 xb (q,i) xk;simp only[J,u]at this;exact this
        .intro o y7;have y8:∃p,p∈B++S/\m[p]?=some o:=by
          rcases List.mem_append.1 y7 with h|h
          .obtain⟨p,t,v⟩:=List.mem_filterMap.1 h;exact⟨p,by simp[t],v⟩
          .obtain⟨p,t,v⟩:=List.mem_filterMap.1 h;exact⟨p,by simp[t],v⟩
         obtain⟨p,t,v⟩:=y8;have xl:p<m.length:=by
          rcases bS p m.length with h|h
          .exact h
          .rw[List.getElem?_eq_none h]at v;cases v
         have c5:=c4 p xl;rw[v]at c5;simp only[aL,ji,df]at c5;have xn:G.Pairwise (·<·):=hs.1;rw[T]at xn;have xo:=List.pairwise_cons.1 (List.pairwise_append.1 xn).2.1;rcases List.mem_append.1 t with xp|y9
         .have yt:q<p:=xo.1 p xp;refine⟨by rcases c5.1 with h|h<;>first|exact h|omega,Dh (L p o (by rw[T];simp[xp]) v)⟩
         .have yu:i<p:=x5.1 p y9;refine⟨by rcases c5.1 with h|h<;>first|exact h|omega,by rcases c5.2 with h|h<;>first|exact h|omega⟩
    exact gen [] G rfl
   have x6:todo m (G++i::S)=todo m G++d::todo m S:=by
    simp only[todo,List.filterMap_append,List.filterMap_cons,u]
   rw[x6]at hd;have l:=sA _ _ y3 hd;simp only[bO]at l;cases x7:cX cf d s with
   |none=>rw[x7]at l;cases l
   |some s1=>
    rw[x7]at l;have aC:∀k,(b.setIfInBounds i true).getD k true=if k=i then true else b.getD k true:=by
     intro k;rw[dH,dH];by_cases e:k=i
     .subst e;simp[O,hi]
     .rw[lq (λh=>e h.symm),ak e]
    have M:∀k,(b.setIfInBounds i true).getD k false=true↔k=i\/b.getD k false=true:=by
     intro k;rw[dH,dH];by_cases e:k=i
     .subst e;simp[O,hi]
     .rw[lq (λh=>e h.symm)];simp[e]
    have xq:=jA (P:=P) (ops:=f) (Q:=Q) hc g m1 m2 m3 x7 (K:=wpAny P .any f Q z (b.setIfInBounds i true)) λa' w' Y g'=>by
     refine ih (b.setIfInBounds i true) (G++S) s1 a' w' Y (by simp at hR⊢;omega) (by simp[O]) ?_ ?_ ?_ g' ?_
     .refine List.pairwise_append.2 ⟨hs.1,x5.2,λx hx y hy=>hs.2.2 x hx y (by simp[hy])⟩
     .intro k;rw[aC];constructor
      .intro hk;have ya:k∈G++i::S:=by
        rcases List.mem_append.1 hk with h|h
        .exact List.mem_append.2 (.inl h)
        .exact List.mem_append.2 (.inr (by simp[h]))
       obtain⟨g1,g2⟩:=(j k).1 ya;have x8:k≠i:=by
        rintro rfl;rcases List.mem_append.1 hk with h|h
        .have:=hs.2.2 k h k az;omega
        .have:=x5.1 k h;omega
       rw[ak x8];exact⟨g1,g2⟩
      .rintro⟨g1,g2⟩;split at g2
       .cases g2
       .rename_i x8;have:=(j k).2 ⟨g1,g2⟩;rcases List.mem_append.1 this with h|h
        .exact List.mem_append.2 (.inl h)
        .rcases List.mem_cons.1 h with h|h
         .exact absurd h x8
         .exact List.mem_append.2 (.inr h)
     .intro k e hk N p t;rw[M];rcases(M k).1 hk with h|h
      .subst h;rw[u]at N;cases N;exact .inr (I p t)
      .exact .inr (H k e h N p t)
     .rw[show todo m (G++S)=todo m G++todo m S from by simp[todo,List.filterMap_append]];exact l
    unfold wpOp;rw[n];exact xq
def D6(u:bV P cf)(f:P.follows .mixedOrders=true){id:Nat}{b:Array Oper}{c:List (Nat×Nat)}{k:List aj}(p:cm P nt.bd b b.toList k=true)(x:mV c k 0 b.toList k=true)(g:bJ B w0 U0 nt β s a w){m:St}(n:bO cf k s=some m)(l:ju c k m.env=true)
  {Q:Exit->Act->World->Prop}(y:∀q r o,bJ B w0 U0 nt o m q r->Q .normal q r):(Code.region id b true).wp P Q a w:=by
 refine wp_region_any f ?_;obtain⟨e,_⟩:=fZ _ _ p;simp only[jV]at e;have z:bJ B w0 U0 nt β s a w.drew:=by
  obtain⟨A,k1⟩:=g.mem.call (eK w.heap.size w);refine⟨A,λi d n=>?_,g.size,g.defers,g.keeps.trans k1,g.cw,g.marks⟩;obtain⟨v,C,D⟩:=g.env i d n;exact⟨v,C,D.cw k1 (mn.refl _ _ _)⟩
 refine K1 u p x l y b.size (Array.replicate b.size false) (List.range b.size) s a w.drew β az az (by rw[List.pairwise_iff_getElem];intro i j t E h;simpa using h) (λi=>?_) (λi d h _=>?_) z ?_
 .simp only[List.mem_range];constructor
  .intro h;exact⟨h,by simp[h]⟩
  .exact λh=>h.1
 .exfalso;by_cases t:i<b.size<;>simp[t]at h
 .rw[e,zU];exact n
end
end
end Go.Dv
