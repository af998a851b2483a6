/- Lemmas for the law of this claim. -/
import Derived.Test.YtcphhjkcgikdgaaGreatDoorP10
import Derived.Tactics
set_option linter.all false
namespace Go.Dv
section
open Go.RowKit
def B2(i j:Nat)(a b:DV)(h:i≠j):∀e:Env,fi (fi e i a) j b=fi (fi e j b) i a
 |[]=>by
   simp only[fi];have m:(i==j)=false:=by simpa using h
   have n:(j==i)=false:=by simpa using λe:j=i=>h e.symm
   simp only[m,n,Bool.false_eq_true,cy];rcases Gl h with l|l
   .rw[an ae,aq l]
   .rw[aq l,an ae]
 |(k,v)::r=>by
   have m:(i==j)=false:=by simpa using h
   have n:(j==i)=false:=by simpa using λe:j=i=>h e.symm
   by_cases o:k=i
   .subst o;have l:(k==j)=false:=m;simp only[fi,beq_self_eq_true,bZ,l,Bool.false_eq_true,cy];by_cases d:j<k
    .simp only[aq d,fi,n,Bool.false_eq_true,cy,an (show¬k<j by omega),beq_self_eq_true,bZ]
    .simp only[an d,fi,beq_self_eq_true,bZ]
   .have c:(k==i)=false:=by simpa using o
    by_cases p:k=j
    .subst p;simp only[fi,beq_self_eq_true,bZ,c,Bool.false_eq_true,cy];by_cases f:i<k
     .simp only[aq f,fi,m,Bool.false_eq_true,cy,an (show¬k<i by omega),beq_self_eq_true,bZ]
     .simp only[an f,fi,beq_self_eq_true,bZ]
    .have g:(k==j)=false:=by simpa using p
     simp only[fi,c,g,Bool.false_eq_true,cy];by_cases f:i<k<;>by_cases d:j<k
     .simp only[aq f,aq d,fi,m,n,Bool.false_eq_true,cy];rcases Gl h with l|l
      .simp only[an (show¬j<i by omega),aq l,fi,g,Bool.false_eq_true,cy,aq d]
      .simp only[aq l,an (show¬i<j by omega),fi,c,Bool.false_eq_true,cy,aq f]
     .simp only[aq f,an d,fi,m,g,c,Bool.false_eq_true,cy,an (show¬j<i by omega)]
     .simp only[an f,aq d,fi,n,g,c,Bool.false_eq_true,cy,an (show¬i<j by omega)]
     .simp only[an f,an d,fi,g,c,Bool.false_eq_true,cy];rw[B2 i j a b h r]
def DR(i j:Nat):∀H:Heap,ml (ml H i) j=ml (ml H j) i
 |[]=>rfl
 |(k,b)::r=>by
   by_cases c:k=i<;>by_cases d:k=j
   .subst c;subst d;rfl
   .subst c;have h:(k==j)=false:=by simpa using d
    simp[ml,h]
   .subst d;have h:(k==i)=false:=by simpa using c
    simp[ml,h]
   .have h:(k==i)=false:=by simpa using c
    have e:(k==j)=false:=by simpa using d
    simp[ml,h,e,DR i j r]
def PD(b:List Nat):∀(H:Heap) (i:Nat),cY (ml H i) b=ml (cY H b) i:=by
 induction b with
 |nil=>intro H i;rfl
 |cons j r c=>intro H i;simp only[cY];rw[DR,c]
def Ae(a:List Nat):∀(H:Heap) (b:List Nat),cY (cY H a) b=cY (cY H b) a:=by
 induction a with
 |nil=>intro H b;rfl
 |cons i r c=>intro H b;simp only[cY];rw[c,PD]
def Step(cf:aI)(x:ai)(s:St)(v:DV)(H:Heap)(n:Nat):Prop:=
 (gd x.guard s.env=some false/\v=.tuple []/\H=s.heap/\n=s.next)\/(gd x.guard s.env=some true/\bg cf x.op s=some (v,H,n))
def dP{cf:aI}{x:ai}{s d:St}:cM cf x s=some d↔∃v H n,Step cf x s v H n/\d={env:=dz s.env x.dst v,heap:=H,next:=n,marks:=s.marks}:=by
 unfold cM Step;cases e:gd x.guard s.env with
 |none=>simp
 |some b=>
  cases b with
  |false=>
   simp only[aw];constructor
   .rintro rfl;exact⟨_,_,_,.inl ⟨aB,rfl,rfl,rfl⟩,rfl⟩
   .rintro⟨v,H,n,⟨_,rfl,rfl,rfl⟩|⟨h,_⟩,rfl⟩
    .rfl
    .simp at h
  |true=>
   simp only;constructor
   .intro h;cases c:bg cf x.op s with
    |none=>rw[c]at h;cases h
    |some r=>obtain⟨v,H,n⟩:=r;rw[c]at h;cases h;exact⟨v,H,n,.inr ⟨aB,rfl⟩,rfl⟩
   .rintro⟨v,H,n,⟨h,_⟩|⟨_,c⟩,rfl⟩
    .simp at h
    .rw[c]
def O9{g:Option (Nat×Bool)}{e c:Env}(h:∀k∈(match g with|some (k,_)=>[k]|none=>[]),ah c k=ah e k):gd g c=gd g e:=by
 cases g with
 |none=>rfl
 |some p=>obtain⟨k,b⟩:=p;simp only[gd];rw[h k aB]
def Step.congr{cf:aI}{x:ai}{s b:St}{v:DV}{H:Heap}{n:Nat}(f:∀k∈x.rd,ah b.env k=ah s.env k)(g:b.heap=s.heap)(i:b.next=s.next)(h:Step cf x s v H n):Step cf x b v H n:=by
 have j:gd x.guard b.env=gd x.guard s.env:=O9 λk c=>f k (by unfold ai.rd;exact List.mem_append.2 (.inl c))
 have l:bg cf x.op b=bg cf x.op s:=wD (λk c=>f k (by unfold ai.rd;exact List.mem_append.2 (.inr c))) g i;rcases h with⟨d,e,m,o⟩|⟨d,e⟩
 .exact .inl ⟨by rw[j,d],e,by rw[g,m],by rw[i,o]⟩
 .exact .inr ⟨by rw[j,d],by rw[l,e]⟩
def Step.blind{cf:aI}{x:ai}{s:St}{v:DV}{H:Heap}{n:Nat}(i:x.op.cls=0)(h:Step cf x s v H n):H=s.heap/\n=s.next/\∀(d:Heap) (e:Nat),Step cf x {s with heap:=d,next:=e} v d e:=by
 rcases h with⟨f,g,j,k⟩|⟨f,g⟩
 .exact⟨j,k,λd e=>.inl ⟨f,g,rfl,rfl⟩⟩
 .obtain⟨a,b,c⟩:=LW i g;exact⟨a,b,λd e=>.inr ⟨f,c d e⟩⟩
def Step.Ue{cf:aI}{x:ai}{s:St}{v:DV}{H:Heap}{n:Nat}(j:x.op.cls=1)(h:Step cf x s v H n):n=s.next/\∃e,H=cY s.heap e/\Step cf x s v (cY s.heap e) s.next/\
  ∀(g:Heap),pF s.heap g->∃d,Step cf x {s with heap:=g} v (cY g d) s.next/\cY s.heap d=cY s.heap e:=by
 rcases h with⟨i,f,k,l⟩|⟨i,f⟩
 .exact⟨l,[],k,.inl ⟨i,f,rfl,rfl⟩,λg _=>⟨[],.inl ⟨i,f,rfl,rfl⟩,rfl⟩⟩
 .obtain⟨e,a,b,c⟩:=De j f (show pF s.heap s.heap from λ_=>rfl);refine⟨b,e,a,.inr ⟨i,by rw[a,b]at f;exact f⟩,λg m=>?_⟩;obtain⟨d,o,q,p⟩:=De j f m;exact⟨d,.inr ⟨i,p⟩,by rw[<-o,a]⟩
def dB{e:Env}{d:Option Nat}{v:DV}{k:Nat}(h:d≠some k):ah (dz e d v) k=ah e k:=by
 cases d with
 |none=>rfl
 |some i=>
  simp only[dz];rw[jQ,an (λe=>h (by rw[e]))]
def vL{e:Env}{d d':Option Nat}{a b:DV}(h:∀k,d=some k->d'≠some k):dz (dz e d a) d' b=dz (dz e d' b) d a:=by
 cases d with
 |none=>cases d'<;>rfl
 |some i=>
  cases d' with
  |none=>rfl
  |some j=>exact B2 i j a b (λe=>h i rfl (by rw[e])) _
def apart_spec{x y:ai}(h:apart x y=true):(∀k∈y.rd,x.dst≠some k)/\(∀k∈x.rd,y.dst≠some k)/\∀k,x.dst=some k->y.dst≠some k:=by
 unfold apart at h;simp only[aO]at h;obtain⟨b,c⟩:=h;refine⟨λk d e=>?_,λk d e=>?_,λk e f=>?_⟩
 .rw[e]at b;simp at b;exact b.1 d
 .rw[e]at c;simp at c;exact c d
 .rw[e,f]at b;simp at b
def UQ{cf:aI}{d:dN}{s:St}(t:d.HU=true){v:DV}{n:Heap}{o:Nat}(h:bg cf d s=some (v,n,o)):∃aY,ah s.heap s.next=none/\n=(s.next,aY)::s.heap/\o=s.next+1/\
  ∀H,ah H s.next=none->bg cf d {s with heap:=H}=some (v,(s.next,aY)::H,s.next+1):=by
 cases d<;>simp only[dN.HU,Bool.false_eq_true]at t
 case alloc z=>
  simp only[bg]at h⊢;split at h
  .rename_i g;simp only[aw,bQ]at h;obtain⟨rfl,rfl,rfl⟩:=h;exact⟨_,g,rfl,rfl,λH e=>by rw[e]⟩
  .cases h
 case box x=>
  have i:∀(H:Heap),St.ev {s with heap:=H} x=s.ev x:=λH=>dj λ_ _=>rfl
  simp only[bg,i]at h⊢;cases p:s.ev x with
  |none=>rw[p]at h;cases h
  |some q=>
   rw[p]at h;simp only at h⊢;split at h
   .rename_i u j g;simp only[aw,bQ]at h;obtain⟨rfl,rfl,rfl⟩:=h;exact⟨_,g,rfl,rfl,λH e=>by rw[j,e]⟩
   .cases h
 case makeSlice r bytes l c=>
  have k:∀(H:Heap),St.ev {s with heap:=H} l=s.ev l:=λH=>dj λ_ _=>rfl
  have m:∀(H:Heap),St.ev {s with heap:=H} c=s.ev c:=λH=>dj λ_ _=>rfl
  simp only[bg,k,m]at h⊢;split at h
  .rename_i a b y A;split at h
   .rename_i f;simp only[aw,bQ]at h;obtain⟨rfl,rfl,rfl⟩:=h;refine⟨_,f.2.2.2.2,rfl,rfl,λH e=>?_⟩;rw[aq ⟨f.1,f.2.1,f.2.2.1,f.2.2.2.1,e⟩]
   .cases h
  .cases h
def FO(n:Nat)(b:ca):∀(c:List Nat) (H:Heap),(∀i∈c,i≠n)->cY ((n,b)::H) c=(n,b)::cY H c
 |[],H,_=>rfl
 |i::r,H,h=>by
  have d:(n==i)=false:=by simpa using λe=>h i aB e.symm
  simp only[cY,ml,d,Bool.false_eq_true,cy];exact FO n b r _ λj f=>h j (by simp[f])
def Qx(n:Nat)(b:List Nat)(H:Heap)(h:ah (cY H b) n=none):ah H n=none:=(DL b H).symm.none h
def Step.grow{cf:aI}{x:ai}{s:St}{v:DV}{H:Heap}{n:Nat}(p:x.op.cls=1)(h:Step cf x s v H n):n=s.next/\∃d,H=cY s.heap d/\
  ∀(m:Nat) (b:ca) (f:Nat),ah s.heap m=none->Step cf x {s with heap:=(m,b)::s.heap,next:=f} v ((m,b)::H) f:=by
 rcases h with⟨l,k,r,y⟩|⟨l,k⟩
 .exact⟨y,[],r,λm b f _=>.inl ⟨l,k,by rw[r],rfl⟩⟩
 .obtain⟨d,a,b,c,_⟩:=FH p k (show Sub s.heap s.heap from λ_ _ h=>h) 0;refine⟨b,d,a,λm aY f o=>.inr ⟨l,?_⟩⟩;have g:Sub s.heap ((m,aY)::s.heap):=by
   intro id z t;simp only[ah];have:(m==id)=false:=by
    simp only[er,ne_eq];intro e;rw[e,t]at o;cases o
   rw[this];exact t
  obtain⟨j,A,z,C,D⟩:=FH p k g f;rw[D,FO m aY j s.heap (λi E e=>by obtain⟨q,u⟩:=C i E;rw[e,o]at u;cases u),<-A]
def Step.fresh{cf:aI}{x:ai}{s:St}{v:DV}{H:Heap}{n:Nat}(e:x.op.HU=true)(h:Step cf x s v H n):
  (H=s.heap/\n=s.next/\∀b,Step cf x {s with heap:=b} v b s.next)\/
  ∃aY,ah s.heap s.next=none/\H=(s.next,aY)::s.heap/\n=s.next+1/\∀b,ah b s.next=none->Step cf x {s with heap:=b} v ((s.next,aY)::b) (s.next+1):=by
 rcases h with⟨c,d,f,g⟩|⟨c,d⟩
 .exact .inl ⟨f,g,λb=>.inl ⟨c,d,rfl,rfl⟩⟩
 .obtain⟨aY,i,j,k,l⟩:=UQ e d;exact .inr ⟨aY,i,j,k,λb m=>.inr ⟨c,l b m⟩⟩
def Cu{cf:aI}{x y:ai}(C:iy x y=true){s L M:St}(O:cM cf x s=some L)(Q:cM cf y L=some M):∃n,cM cf y s=some n/\cM cf x n=some M:=by
 unfold iy at C;simp only[aO,iT,cw]at C;obtain⟨D,d⟩:=C;obtain⟨o,p,R⟩:=apart_spec D;obtain⟨h,Hx,U,q,rfl⟩:=dP.1 O;obtain⟨e,r,t,A,rfl⟩:=dP.1 Q;have u:dz (dz s.env x.dst h) y.dst e=dz (dz s.env y.dst e) x.dst h:=vL R;rcases d with((d|d)|⟨i,j⟩)|⟨i,j⟩
 .obtain⟨rfl,rfl,g⟩:=q.blind d;have b:Step cf y s e r t:=by
   refine Step.congr ?_ ?_ ?_ A
   .exact λk c=>(dB (o k c)).symm
   .rfl
   .rfl
  refine⟨_,dP.2 ⟨e,r,t,b,rfl⟩,dP.2 ⟨h,r,t,?_,by rw[u]⟩⟩;refine Step.congr ?_ ?_ ?_ (g r t)
  .exact λk c=>dB (p k c)
  .rfl
  .rfl
 .obtain⟨rfl,rfl,g⟩:=A.blind d;have b:Step cf y s e s.heap s.next:=by
   refine Step.congr ?_ ?_ ?_ (g s.heap s.next)
   .exact λk c=>(dB (o k c)).symm
   .rfl
   .rfl
  refine⟨_,dP.2 ⟨e,s.heap,s.next,b,rfl⟩,dP.2 ⟨h,r,t,?_,by rw[u]⟩⟩;refine Step.congr ?_ ?_ ?_ q
  .exact λk c=>dB (p k c)
  .rfl
  .rfl
 .obtain⟨rfl,m,rfl,S,E⟩:=q.Ue i;obtain⟨rfl,T,rfl,F,v⟩:=A.Ue j;simp only at F v;obtain⟨f,G,H⟩:=v s.heap (DL m s.heap).symm;have b:Step cf y s e (cY s.heap f) s.next:=by
   refine Step.congr ?_ ?_ ?_ G
   .exact λk c=>(dB (o k c)).symm
   .rfl
   .rfl
  obtain⟨l,I,J⟩:=E (cY s.heap f) (DL f s.heap);refine⟨_,dP.2 ⟨e,_,_,b,rfl⟩,dP.2 ⟨h,cY (cY s.heap f) l,s.next,?_,?_⟩⟩
  .refine Step.congr ?_ ?_ ?_ I
   .exact λk c=>dB (p k c)
   .rfl
   .rfl
  .have:cY (cY s.heap m) T=cY (cY s.heap f) l:=by rw[<-H,Ae m,<-Ae l,J,Ae]
   rw[u,this]
 .obtain⟨rfl,m,rfl,K⟩:=q.grow i;rcases A.fresh j with⟨rfl,rfl,g⟩|⟨aY,N,rfl,rfl,g⟩
  .have b:Step cf y s e s.heap s.next:=by
    refine Step.congr ?_ ?_ ?_ (g s.heap)
    .exact λk c=>(dB (o k c)).symm
    .rfl
    .rfl
   refine⟨_,dP.2 ⟨e,s.heap,s.next,b,rfl⟩,dP.2 ⟨h,cY s.heap m,s.next,?_,by rw[u]⟩⟩;refine Step.congr ?_ ?_ ?_ q
   .exact λk c=>dB (p k c)
   .rfl
   .rfl
  .simp only at N g⊢;have z:ah s.heap s.next=none:=Qx _ _ _ N;have b:Step cf y s e ((s.next,aY)::s.heap) (s.next+1):=by
    refine Step.congr ?_ ?_ ?_ (g s.heap z)
    .exact λk c=>(dB (o k c)).symm
    .rfl
    .rfl
   refine⟨_,dP.2 ⟨e,_,_,b,rfl⟩,dP.2 ⟨h,(s.next,aY)::cY s.heap m,s.next+1,?_,by rw[u]⟩⟩;refine Step.congr ?_ ?_ ?_ (K s.next aY (s.next+1) z)
   .exact λk c=>dB (p k c)
   .rfl
   .rfl
def n6{cf:aI}{i:ai}{g:List ai}:∀(d:List ai) (s b:St),(∀j∈d,iy j i=true)->bR cf (d++i::g) s=some b->bR cf (i::(d++g)) s=some b
 |[],s,b,_,h=>h
 |j::r,s,b,l,h=>by
  simp only[List.cons_append,bR]at h;cases e:cM cf j s with
  |none=>rw[e]at h;cases h
  |some m=>
   rw[e]at h;have c:=n6 r m b (λk n=>l k (by simp[n])) h;simp only[bR]at c;cases f:cM cf i m with
   |none=>rw[f]at c;cases c
   |some t=>
    rw[f]at c;obtain⟨o,p,q⟩:=Cu (l j aB) e f;simp only[bR,p,List.cons_append,q];exact c
section
variable{P:Program}{B:Nat}{w0:World}{U0:Nat->Prop}{β:Place}{w:World}{nt:Cx}{s:St}{a:Act}{cf:aI}
def bH.step(g:bH B w0 U0 nt β s a w){v:DV}{u:Heap}{l:Nat}{x:Value}{A:World}(D:Good B w0 U0 s.heap s.next β w v u l x A){b:Option Nat}(C:∀k,b=some k->nt.bd.free k=true):
  ∃c,bH B w0 U0 nt c {env:=dz s.env b v,heap:=u,next:=l,marks:=s.marks} (a.put b x) A:=by
 obtain⟨c,m,k,e,d⟩:=D;refine⟨c,⟨m,λi y f=>?_,?_,?_,g.keeps.trans k,g.cn.trans e,g.marks⟩⟩
 .cases b with
  |none=>
   obtain⟨z,n,o⟩:=g.env i y f;exact⟨z,n,o.cn k e⟩
  |some j=>
   simp only[dz]at f;rw[jQ]at f;split at f
   .rename_i h;subst h;cases f;have p:j<a.tmps.size:=by rw[g.size];exact lJ (C j rfl)
    exact⟨x,by simp[Act.put,p],d⟩
   .rename_i h;obtain⟨z,n,o⟩:=g.env i y f;refine⟨z,?_,o.cn k e⟩;simp only[Act.put];rw[kL h];exact n
 .cases b<;>simp[Act.put,g.size]
 .refine⟨by cases b<;>simp[Act.put,g.defers.1],λq r=>?_⟩
  cases b with
  |none=>exact g.defers.2 q r
  |some j=>
   have t:j≠q:=λe=>Am (C j rfl) (e▸r)
   simp only[Act.put];rw[kL t];exact g.defers.2 q r
def zr(g:bH B w0 U0 nt β s a w){e:Array Oper}{o:Oper}{d:ai}(h:qU e o d=true){b:Bool}(c:gd d.guard s.env=some b):Region.wanted o (yielded e a.tmps)=b:=by
 unfold qU at h;split at h
 .rename_i i l;rw[l]at c;simp only[gd,aw]at c;simp[Region.wanted,i,<-c]
 .rename_i j D k u i l;rw[l]at c;simp only[aO,cw]at h;obtain⟨rfl,f⟩:=h;cases m:(e[j]?).bind (·.dst)with
  |none=>rw[m]at f;cases f
  |some x=>
   rw[m]at f;simp only[cw]at f;subst f;simp only[gd]at c;simp only[Region.wanted,i,yielded,m,M9];cases n:ah s.env x with
   |none=>rw[n]at c;cases c
   |some v=>
    rw[n]at c;obtain⟨z,y,r⟩:=g.env _ _ n;rw[y];cases v with
    |p q=>
     cases q with
     |bool t=>
      simp only[aw]at c;obtain rfl:=r.ld;simp[<-c]
     |_=>cases c
    |tuple A=>
     cases A with
     |nil=>
      simp only[aw]at c;cases r with|tuple _ C E _=>
      simp[<-c]
     |cons _ _=>cases c
    |_=>cases c
 .cases h
def VT{o:Oper}{d:ai}(h:Db nt.bd o d=true):o.dst=d.dst/\∀k,d.dst=some k->nt.bd.free k=true:=by
 unfold Db at h;split at h
 .rename_i c b;exact⟨by rw[c,b],λk e=>by rw[b]at e;cases e⟩
 .rename_i x y c b;simp only[aO,cw,cp]at h;exact⟨by rw[c,b,h.1],λk e=>by rw[b]at e;cases e;exact h.2⟩
 .cases h
def jk(t:bS P cf)(g:bH B w0 U0 nt β s a w){ops:Array Oper}{o:Oper}{d:ai}(u:Db nt.bd o d=true)(l:qU ops o d=true)(y:oh P o.op d.op=true){m:St}(z:cM cf d s=some m){K:Act->World->Prop}{Q:Exit->Act->World->Prop}
  (p:∀q e b,bH B w0 U0 nt b m q e->K q e):if Region.wanted o (yielded ops a.tmps)then o.wp P a w K Q\/(o.asks P a w/\LetsOut Q)else K (a.put o.dst undef) w:=by
 obtain⟨r,c⟩:=VT u;obtain⟨v,H,n,f,rfl⟩:=dP.1 z;rcases f with⟨h,rfl,rfl,rfl⟩|⟨h,i⟩
 .rw[zr g l h];simp only[Bool.false_eq_true,cy];obtain⟨b,j⟩:=g.step (bl g.mem bj.undef) c;rw[r];exact p _ _ _ j
 .rw[zr g l h];simp only[bZ];refine .inl (OW t g y i λx e k=>?_);obtain⟨b,j⟩:=g.step k c;rw[r];exact p _ _ _ j
def tD(p:bS P cf){f:Array Oper}{Q:Exit->Act->World->Prop}:∀(i:List Oper) (j:List ai),b4 P nt.bd f i j=true->∀(s:St) (a:Act) (w:World) (β:Place) (h:St),bH B w0 U0 nt β s a w->bR cf j s=some h->
  (∀k l c,bH B w0 U0 nt c h k l->Q .normal k l)->wpList P f Q i a w
 |[],[],_,s,a,w,β,h,g,b,m=>by
  simp only[bR,aw]at b;subst b;exact m _ _ _ g
 |o::i,d::j,e,s,a,w,β,h,g,b,m=>by
  simp only[b4,aO]at e;obtain⟨⟨⟨q,r⟩,t⟩,u⟩:=e;simp only[bR]at b;cases n:cM cf d s with
  |none=>rw[n]at b;cases b
  |some v=>
   rw[n]at b;simp only[wpList];exact jk p g q r t n λk l c x=>tD p i j u v k l c h x b m
 |[],_::_,e,_,_,_,_,_,_,_,_=>by simp[b4]at e
 |_::_,[],e,_,_,_,_,_,_,_,_=>by simp[b4]at e
def fI{b:Array Oper}:∀(c:List Oper) (e:List ai),b4 P nt.bd b c e=true->c.length=e.length/\∀(i:Nat) (o:Oper) (d:ai),c[i]?=some o->e[i]?=some d->Db nt.bd o d=true/\qU b o d=true/\oh P o.op d.op=true
 |[],[],_=>⟨rfl,aB⟩
 |o::c,d::e,h=>by
  simp only[b4,aO]at h;obtain⟨⟨⟨j,k⟩,l⟩,m⟩:=h;obtain⟨n,p⟩:=fI c e m;refine⟨by simp[n],λi q r f g=>?_⟩;cases i with
  |zero=>simp only[List.getElem?_cons_zero,aw]at f g;subst f;subst g;exact⟨j,k,l⟩
  |succ i=>simp only[List.getElem?_cons_succ]at f g;exact p i q r f g
 |[],_::_,h=>by simp[b4]at h
 |_::_,[],h=>by simp[b4]at h
def wQ{b:List ai}:∀(k:Nat) (f:List Oper) (g:List ai),mW b k f g=true->∀(i:Nat) (o:Oper) (d:ai),f[i]?=some o->g[i]?=some d->
  (∀p∈direct o,p∈d.dp)/\(∀p∈d.dp,p<k+i/\(p∈direct o\/∃q∈direct o,∃e,b[q]?=some e/\p∈e.dp))/\∀j,j<k+i->j∈d.dp\/∃e,b[j]?=some e/\iy e d=true
 |k,[],[],_,i,o,d,h,_=>by simp at h
 |k,o::f,d::g,h,i,t,u,l,m=>by
  simp only[mW,aO]at h;obtain⟨⟨⟨v,x⟩,y⟩,z⟩:=h;cases i with
  |zero=>
   simp only[List.getElem?_cons_zero,aw]at l m;subst l;subst m;refine⟨λp r=>?_,λp r=>?_,λj A=>?_⟩
   .have:=List.all_eq_true.1 v p r;simpa using this
   .have:=List.all_eq_true.1 x p r;simp only[aO,cp,iT,List.contains_iff_mem,List.any_eq_true]at this;refine⟨ae,?_⟩;rcases this.2 with h|⟨q,C,n⟩
    .exact .inl h
    .right;refine⟨q,C,?_⟩;cases c:b[q]? with
     |none=>rw[c]at n;cases n
     |some e=>rw[c]at n;exact⟨e,rfl,by simpa using n⟩
   .have:=List.all_eq_true.1 y j (by simpa using A);simp only[iT,List.contains_iff_mem]at this;rcases this with h|h
    .exact .inl h
    .right;cases c:b[j]? with
     |none=>rw[c]at h;cases h
     |some e=>rw[c]at h;exact⟨e,rfl,h⟩
  |succ i=>
   simp only[List.getElem?_cons_succ]at l m;have:=wQ (k+1) f g z i t u l m;rw[show k+(i+1)=k+1+i from ae];exact this
 |k,[],_::_,h,_,_,_,_,_=>by simp[mW]at h
 |k,_::_,[],h,_,_,_,_,_=>by simp[mW]at h
def todo(b:List ai)(R:List Nat):List ai:=R.filterMap (b[·]?)
def Ly(hc:bS P cf){c:Array Oper}{u:List ai}(hm:b4 P nt.bd c c.toList u=true)(ho:mW u 0 c.toList u=true){Q:Exit->Act->World->Prop}{s':St}(hQ:∀a' w' J,bH B w0 U0 nt J s' a' w'->Q .normal a' w'):
  ∀(n:Nat) (b:Array Bool) (R:List Nat) (s:St) (a:Act) (w:World) (β:Place),R.length<=n->b.size=c.size->R.Pairwise (·<·)->(∀i,i∈R↔i<c.size/\b.getD i true=false)->
   (∀i d,b.getD i false=true->u[i]?=some d->∀p∈d.dp,b.getD p false=true)->bH B w0 U0 nt β s a w->bR cf (todo u R) s=some s'->
   wpAny P .any c Q n b a w:=by
 obtain⟨Z,x0⟩:=fI _ _ hm;have H:=wQ 0 _ _ ho;simp only[jz]at Z;have t:∀(b:Array Bool) (i:Nat),i∈Region.ready .any c b↔i<c.size/\b.getD i true=false/\∃o,c[i]?=some o/\∀p∈direct o,b.getD p false=true:=by
  intro b i;unfold Region.ready;simp only[List.mem_filter,List.mem_range,aO,jW];constructor
  .rintro⟨L,M,h3⟩;have m:=ni L;rw[m]at h3;simp only[Option.map_some,il]at h3;refine⟨L,M,c[i],m,λp F=>?_⟩;unfold direct at F;obtain⟨e,A,rfl⟩:=List.mem_map.1 F;obtain⟨xe,xf⟩:=List.mem_filter.1 A;have:=(tS.1 h3) e (by simpa using xe);simpa[xf]using this
  .rintro⟨L,M,o,m,h3⟩;refine⟨L,M,?_⟩;rw[m];simp only[Option.map_some,il];rw[tS];intro e A;by_cases hb:Region.binds .any e=true
   .simp only[hb,Bool.not_true,Bool.false_or];exact h3 e.on (List.mem_map.2 ⟨e,List.mem_filter.2 ⟨by simpa using A,hb⟩,rfl⟩)
   .simp only[Gx]at hb;simp[hb]
 intro n;induction n with
 |zero=>
  intro b R s a w β hR G v f C g N;have xg:R=[]:=List.eq_nil_of_length_eq_zero ae;subst xg;simp only[todo,List.filterMap_nil,bR,aw]at N;subst N;refine⟨?_,hQ _ _ _ g⟩;cases hr:Region.ready .any c b with
  |nil=>rfl
  |cons i r=>
   have:=(t b i).1 (by rw[hr];simp);exact absurd ((f i).2 ⟨this.1,this.2.1⟩) aB
 |succ n ih=>
  intro b R s a w β hR G v f C g N;constructor
  .intro hr;cases x2:R with
   |nil=>
    subst x2;simp only[todo,List.filterMap_nil,bR,aw]at N;subst N;exact hQ _ _ _ g
   |cons i r=>
    exfalso;subst x2;obtain⟨X,O⟩:=(f i).1 aB;have m:=ni X;have z:u[i]?=some (u[i]'ae):=List.getElem?_eq_getElem ae;obtain⟨k1,k2,_⟩:=H i _ _ (by rw[dZ];exact m) z;have:i∈Region.ready .any c b:=(t b i).2 ⟨X,O,_,m,λp F=>by
     have xy:=(k2 p (k1 p F)).1;have x3:p∉i::r:=by
      intro xi;rcases List.mem_cons.1 xi with h|h
      .omega
      .have:=(List.pairwise_cons.1 v).1 p h;omega
     have xj:p<c.size:=ae;have D:¬b.getD p true=false:=λh=>x3 ((f p).2 ⟨xj,h⟩)
     have x4:p<b.size:=ae;simp[x4]at D⊢;exact D⟩
    rw[hr]at this;simp at this
  .intro i xk;obtain⟨X,O,o,m,I⟩:=(t b i).1 xk;have z:u[i]?=some (u[i]'ae):=List.getElem?_eq_getElem ae;generalize xz:u[i]'ae=d at z;obtain⟨k1,k2,k3⟩:=H i o d (by rw[dZ];exact m) z;obtain⟨m1,m2,m3⟩:=x0 i o d (by rw[dZ];exact m) z;have xl:i∈R:=(f i).2 ⟨X,O⟩;obtain⟨S,Y,rfl⟩:=List.append_of_mem xl;have D:∀p∈d.dp,b.getD p false=true:=by
    intro p F;rcases(k2 p F).2 with h|⟨q,hq,e,A,xm⟩
    .exact I p h
    .exact C q e (I q hq) A p xm
   have hs:=List.pairwise_append.1 v;have x7:=List.pairwise_cons.1 hs.2.1;have T:∀j∈todo u S,iy j d=true:=by
    intro j hj;obtain⟨q,hq,xn⟩:=List.mem_filterMap.1 hj;have y4:q<i:=hs.2.2 q hq i aB;rcases k3 q ae with h|⟨e,A,xo⟩
    .have L:=D q h;have M:=((f q).1 (by simp[hq])).2;have xp:q<b.size:=by have:=((f q).1 (by simp[hq])).1;omega
     simp[xp]at L M;rw[L]at M;cases M
    .rw[xn]at A;cases A;exact xo
   have U:todo u (S++i::Y)=todo u S++d::todo u Y:=by
    simp only[todo,List.filterMap_append,List.filterMap_cons,z]
   rw[U]at N;have l:=n6 _ _ _ T N;simp only[bR]at l;cases V:cM cf d s with
   |none=>rw[V]at l;cases l
   |some s1=>
    rw[V]at l;have aH:∀k,(b.setIfInBounds i true).getD k true=if k=i then true else b.getD k true:=by
     intro k;rw[dA,dA];by_cases e:k=i
     .subst e;simp[G,X]
     .rw[kL (λh=>e h.symm),an e]
    have E:∀k,(b.setIfInBounds i true).getD k false=true↔k=i\/b.getD k false=true:=by
     intro k;rw[dA,dA];by_cases e:k=i
     .subst e;simp[G,X]
     .rw[kL (λh=>e h.symm)];simp[e]
    have x8:=jk (P:=P) (ops:=c) (Q:=Q) hc g m1 m2 m3 V (K:=wpAny P .any c Q n (b.setIfInBounds i true)) λa' w' J g'=>by
     refine ih (b.setIfInBounds i true) (S++Y) s1 a' w' J (by simp at hR⊢;omega) (by simp[G]) ?_ ?_ ?_ g' ?_
     .refine List.pairwise_append.2 ⟨hs.1,x7.2,λx hx y hy=>hs.2.2 x hx y (by simp[hy])⟩
     .intro k;rw[aH];constructor
      .intro hk;have xq:k∈S++i::Y:=by
        rcases List.mem_append.1 hk with h|h
        .exact List.mem_append.2 (.inl h)
        .exact List.mem_append.2 (.inr (by simp[h]))
       obtain⟨g1,g2⟩:=(f k).1 xq;have W:k≠i:=by
        rintro rfl;rcases List.mem_append.1 hk with h|h
        .have:=hs.2.2 k h k aB;omega
        .have:=x7.1 k h;omega
       rw[an W];exact⟨g1,g2⟩
      .rintro⟨g1,g2⟩;split at g2
       .cases g2
       .rename_i W;have:=(f k).2 ⟨g1,g2⟩;rcases List.mem_append.1 this with h|h
        .exact List.mem_append.2 (.inl h)
        .rcases List.mem_cons.1 h with h|h
         .exact absurd h W
         .exact List.mem_append.2 (.inr h)
     .intro k e hk A p F;rw[E];rcases(E k).1 hk with h|h
      .subst h;rw[z]at A;cases A;exact .inr (D p F)
      .exact .inr (C k e h A p F)
     .rw[show todo u (S++Y)=todo u S++todo u Y from by simp[todo,List.filterMap_append]];exact l
    unfold wpOp;rw[m];exact x8
def wF{b:Type}:∀(l pre:List b),(List.range' pre.length l.length).filterMap ((pre++l)[·]?)=l
 |[],pre=>aB
 |x::l,pre=>by
  have c:(pre++x::l)[pre.length]?=some x:=aB;rw[List.length_cons,List.range'_succ,List.filterMap_cons,c];have:=wF l (pre++[x]);rw[List.length_append,List.length_singleton,List.append_assoc,List.singleton_append]at this;simp only[this]
def zu(b:List ai):todo b (List.range b.length)=b:=by
 have:=wF b [];rw[List.length_nil,List.nil_append]at this;rw[todo,List.range_eq_range'];exact this
def qw(p:bS P cf)(f:P.follows .mixedOrders=true){id:Nat}{b:Array Oper}{c:Bool}{k:List ai}(m:b4 P nt.bd b b.toList k=true)(q:(!c||mW k 0 b.toList k)=true)(g:bH B w0 U0 nt β s a w){n:St}(l:bR cf k s=some n)
  {Q:Exit->Act->World->Prop}(r:∀t u o,bH B w0 U0 nt o n t u->Q .normal t u):(Code.region id b c).wp P Q a w:=by
 cases c with
 |false=>exact wp_region_list (tD p _ _ m s a w β n g l r)
 |true=>
  simp only[Bool.not_true,Bool.false_or]at q;refine wp_region_any f ?_;obtain⟨e,_⟩:=fI _ _ m;simp only[jz]at e;have y:bH B w0 U0 nt β s a w.drew:=by
   obtain⟨z,k1⟩:=g.mem.call (eA w.heap.size w);refine⟨z,λi d l=>?_,g.size,g.defers,g.keeps.trans k1,g.cn,g.marks⟩;obtain⟨v,A,C⟩:=g.env i d l;exact⟨v,A,C.cn k1 (ku.refl _ _ _)⟩
  refine Ly p m q r b.size (Array.replicate b.size false) (List.range b.size) s a w.drew β aB aB (by rw[List.pairwise_iff_getElem];intro i j x D h;simpa using h) (λi=>?_) (λi d h _=>?_) y ?_
  .simp only[List.mem_range];constructor
   .intro h;exact⟨h,by simp[h]⟩
   .exact λh=>h.1
  .exfalso;by_cases x:i<b.size<;>simp[x]at h
  .rw[e,zu];exact l
end
end
end Go.Dv
