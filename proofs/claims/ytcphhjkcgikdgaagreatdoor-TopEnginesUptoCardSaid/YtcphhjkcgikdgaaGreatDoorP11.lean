/- Lemmas for the law of this claim. -/
import Derived.Test.YtcphhjkcgikdgaaGreatDoorP10
import Derived.Tactics
set_option linter.all false
namespace Go.Dv
section
open Go.RowKit
def Co(i j:Nat)(a b:DV)(h:i≠j):∀e:Env,fI (fI e i a) j b=fI (fI e j b) i a
 |[]=>by
   simp only[fI];have m:(i==j)=false:=by simpa using h
   have n:(j==i)=false:=by simpa using λe:j=i=>h e.symm
   simp only[m,n,Bool.false_eq_true,cK];rcases G5 h with l|l
   .rw[ak ae,aq l]
   .rw[aq l,ak ae]
 |(k,v)::r=>by
   have m:(i==j)=false:=by simpa using h
   have n:(j==i)=false:=by simpa using λe:j=i=>h e.symm
   by_cases o:k=i
   .subst o;have l:(k==j)=false:=m;simp only[fI,beq_self_eq_true,cQ,l,Bool.false_eq_true,cK];by_cases d:j<k
    .simp only[aq d,fI,n,Bool.false_eq_true,cK,ak (show¬k<j by omega),beq_self_eq_true,cQ]
    .simp only[ak d,fI,beq_self_eq_true,cQ]
   .have c:(k==i)=false:=by simpa using o
    by_cases p:k=j
    .subst p;simp only[fI,beq_self_eq_true,cQ,c,Bool.false_eq_true,cK];by_cases f:i<k
     .simp only[aq f,fI,m,Bool.false_eq_true,cK,ak (show¬k<i by omega),beq_self_eq_true,cQ]
     .simp only[ak f,fI,beq_self_eq_true,cQ]
    .have g:(k==j)=false:=by simpa using p
     simp only[fI,c,g,Bool.false_eq_true,cK];by_cases f:i<k<;>by_cases d:j<k
     .simp only[aq f,aq d,fI,m,n,Bool.false_eq_true,cK];rcases G5 h with l|l
      .simp only[ak (show¬j<i by omega),aq l,fI,g,Bool.false_eq_true,cK,aq d]
      .simp only[aq l,ak (show¬i<j by omega),fI,c,Bool.false_eq_true,cK,aq f]
     .simp only[aq f,ak d,fI,m,g,c,Bool.false_eq_true,cK,ak (show¬j<i by omega)]
     .simp only[ak f,aq d,fI,n,g,c,Bool.false_eq_true,cK,ak (show¬i<j by omega)]
     .simp only[ak f,ak d,fI,g,c,Bool.false_eq_true,cK];rw[Co i j a b h r]
def Dr(i j:Nat):∀H:Heap,mM (mM H i) j=mM (mM H j) i
 |[]=>rfl
 |(k,b)::r=>by
   by_cases c:k=i<;>by_cases d:k=j
   .subst c;subst d;rfl
   .subst c;have h:(k==j)=false:=by simpa using d
    simp[mM,h]
   .subst d;have h:(k==i)=false:=by simpa using c
    simp[mM,h]
   .have h:(k==i)=false:=by simpa using c
    have e:(k==j)=false:=by simpa using d
    simp[mM,h,e,Dr i j r]
def Qe(b:List Nat):∀(H:Heap) (i:Nat),dp (mM H i) b=mM (dp H b) i:=by
 induction b with
 |nil=>intro H i;rfl
 |cons j r c=>intro H i;simp only[dp];rw[Dr,c]
def Ai(a:List Nat):∀(H:Heap) (b:List Nat),dp (dp H a) b=dp (dp H b) a:=by
 induction a with
 |nil=>intro H b;rfl
 |cons i r c=>intro H b;simp only[dp];rw[c,Qe]
def Step(cf:aK)(x:aj)(s:St)(v:DV)(H:Heap)(n:Nat):Prop:=
 (gd x.guard s.env=some false/\v=.tuple []/\H=s.heap/\n=s.next)\/(gd x.guard s.env=some true/\bf cf x.op s=some (v,H,n))
def en{cf:aK}{x:aj}{s d:St}:cX cf x s=some d↔∃v H n,Step cf x s v H n/\d={env:=dF s.env x.dst v,heap:=H,next:=n,marks:=s.marks}:=by
 unfold cX Step;cases e:gd x.guard s.env with
 |none=>simp
 |some b=>
  cases b with
  |false=>
   simp only[ay];constructor
   .rintro rfl;exact⟨_,_,_,.inl ⟨az,rfl,rfl,rfl⟩,rfl⟩
   .rintro⟨v,H,n,⟨_,rfl,rfl,rfl⟩|⟨h,_⟩,rfl⟩
    .rfl
    .simp at h
  |true=>
   simp only;constructor
   .intro h;cases c:bf cf x.op s with
    |none=>rw[c]at h;cases h
    |some r=>obtain⟨v,H,n⟩:=r;rw[c]at h;cases h;exact⟨v,H,n,.inr ⟨az,rfl⟩,rfl⟩
   .rintro⟨v,H,n,⟨h,_⟩|⟨_,c⟩,rfl⟩
    .simp at h
    .rw[c]
def PT{g:Option (Nat×Bool)}{e c:Env}(h:∀k∈(match g with|some (k,_)=>[k]|none=>[]),ag c k=ag e k):gd g c=gd g e:=by
 cases g with
 |none=>rfl
 |some p=>obtain⟨k,b⟩:=p;simp only[gd];rw[h k az]
def Step.congr{cf:aK}{x:aj}{s b:St}{v:DV}{H:Heap}{n:Nat}(f:∀k∈x.rd,ag b.env k=ag s.env k)(g:b.heap=s.heap)(i:b.next=s.next)(h:Step cf x s v H n):Step cf x b v H n:=by
 have j:gd x.guard b.env=gd x.guard s.env:=PT λk c=>f k (by unfold aj.rd;exact List.mem_append.2 (.inl c))
 have l:bf cf x.op b=bf cf x.op s:=wJ (λk c=>f k (by unfold aj.rd;exact List.mem_append.2 (.inr c))) g i;rcases h with⟨d,e,m,o⟩|⟨d,e⟩
 .exact .inl ⟨by rw[j,d],e,by rw[g,m],by rw[i,o]⟩
 .exact .inr ⟨by rw[j,d],by rw[l,e]⟩
def Step.blind{cf:aK}{x:aj}{s:St}{v:DV}{H:Heap}{n:Nat}(i:x.op.cls=0)(h:Step cf x s v H n):H=s.heap/\n=s.next/\∀(d:Heap) (e:Nat),Step cf x {s with heap:=d,next:=e} v d e:=by
 rcases h with⟨f,g,j,k⟩|⟨f,g⟩
 .exact⟨j,k,λd e=>.inl ⟨f,g,rfl,rfl⟩⟩
 .obtain⟨a,b,c⟩:=NF i g;exact⟨a,b,λd e=>.inr ⟨f,c d e⟩⟩
def Step.T3{cf:aK}{x:aj}{s:St}{v:DV}{H:Heap}{n:Nat}(j:x.op.cls=1)(h:Step cf x s v H n):n=s.next/\∃e,H=dp s.heap e/\Step cf x s v (dp s.heap e) s.next/\
  ∀(g:Heap),qm s.heap g->∃d,Step cf x {s with heap:=g} v (dp g d) s.next/\dp s.heap d=dp s.heap e:=by
 rcases h with⟨i,f,k,l⟩|⟨i,f⟩
 .exact⟨l,[],k,.inl ⟨i,f,rfl,rfl⟩,λg _=>⟨[],.inl ⟨i,f,rfl,rfl⟩,rfl⟩⟩
 .obtain⟨e,a,b,c⟩:=D0 j f (show qm s.heap s.heap from λ_=>rfl);refine⟨b,e,a,.inr ⟨i,by rw[a,b]at f;exact f⟩,λg m=>?_⟩;obtain⟨d,o,q,p⟩:=D0 j f m;exact⟨d,.inr ⟨i,p⟩,by rw[<-o,a]⟩
def dI{e:Env}{d:Option Nat}{v:DV}{k:Nat}(h:d≠some k):ag (dF e d v) k=ag e k:=by
 cases d with
 |none=>rfl
 |some i=>
  simp only[dF];rw[kb,ak (λe=>h (by rw[e]))]
def xA{e:Env}{d d':Option Nat}{a b:DV}(h:∀k,d=some k->d'≠some k):dF (dF e d a) d' b=dF (dF e d' b) d a:=by
 cases d with
 |none=>cases d'<;>rfl
 |some i=>
  cases d' with
  |none=>rfl
  |some j=>exact Co i j a b (λe=>h i rfl (by rw[e])) _
def apart_spec{x y:aj}(h:apart x y=true):(∀k∈y.rd,x.dst≠some k)/\(∀k∈x.rd,y.dst≠some k)/\∀k,x.dst=some k->y.dst≠some k:=by
 unfold apart at h;simp only[aL]at h;obtain⟨b,c⟩:=h;refine⟨λk d e=>?_,λk d e=>?_,λk e f=>?_⟩
 .rw[e]at b;simp at b;exact b.1 d
 .rw[e]at c;simp at c;exact c d
 .rw[e,f]at b;simp at b
def UQ{cf:aK}{d:dX}{s:St}(t:d.Hd=true){v:DV}{n:Heap}{o:Nat}(h:bf cf d s=some (v,n,o)):∃aZ,ag s.heap s.next=none/\n=(s.next,aZ)::s.heap/\o=s.next+1/\
  ∀H,ag H s.next=none->bf cf d {s with heap:=H}=some (v,(s.next,aZ)::H,s.next+1):=by
 cases d<;>simp only[dX.Hd,Bool.false_eq_true]at t
 case alloc z=>
  simp only[bf]at h⊢;split at h
  .rename_i g;simp only[ay,bY]at h;obtain⟨rfl,rfl,rfl⟩:=h;exact⟨_,g,rfl,rfl,λH e=>by rw[e]⟩
  .cases h
 case box x=>
  have i:∀(H:Heap),St.ev {s with heap:=H} x=s.ev x:=λH=>du λ_ _=>rfl
  simp only[bf,i]at h⊢;cases p:s.ev x with
  |none=>rw[p]at h;cases h
  |some q=>
   rw[p]at h;simp only at h⊢;split at h
   .rename_i u j g;simp only[ay,bY]at h;obtain⟨rfl,rfl,rfl⟩:=h;exact⟨_,g,rfl,rfl,λH e=>by rw[j,e]⟩
   .cases h
 case makeSlice r bytes l c=>
  have k:∀(H:Heap),St.ev {s with heap:=H} l=s.ev l:=λH=>du λ_ _=>rfl
  have m:∀(H:Heap),St.ev {s with heap:=H} c=s.ev c:=λH=>du λ_ _=>rfl
  simp only[bf,k,m]at h⊢;split at h
  .rename_i a b y A;split at h
   .rename_i f;simp only[ay,bY]at h;obtain⟨rfl,rfl,rfl⟩:=h;refine⟨_,f.2.2.2.2,rfl,rfl,λH e=>?_⟩;rw[aq ⟨f.1,f.2.1,f.2.2.1,f.2.2.2.1,e⟩]
   .cases h
  .cases h
def Fp(n:Nat)(b:bq):∀(c:List Nat) (H:Heap),(∀i∈c,i≠n)->dp ((n,b)::H) c=(n,b)::dp H c
 |[],H,_=>rfl
 |i::r,H,h=>by
  have d:(n==i)=false:=by simpa using λe=>h i az e.symm
  simp only[dp,mM,d,Bool.false_eq_true,cK];exact Fp n b r _ λj f=>h j (by simp[f])
def Px(n:Nat)(b:List Nat)(H:Heap)(h:ag (dp H b) n=none):ag H n=none:=(Dw b H).symm.none h
def Step.grow{cf:aK}{x:aj}{s:St}{v:DV}{H:Heap}{n:Nat}(p:x.op.cls=1)(h:Step cf x s v H n):n=s.next/\∃d,H=dp s.heap d/\
  ∀(m:Nat) (b:bq) (f:Nat),ag s.heap m=none->Step cf x {s with heap:=(m,b)::s.heap,next:=f} v ((m,b)::H) f:=by
 rcases h with⟨l,k,r,y⟩|⟨l,k⟩
 .exact⟨y,[],r,λm b f _=>.inl ⟨l,k,by rw[r],rfl⟩⟩
 .obtain⟨d,a,b,c,_⟩:=F5 p k (show Sub s.heap s.heap from λ_ _ h=>h) 0;refine⟨b,d,a,λm aZ f o=>.inr ⟨l,?_⟩⟩;have g:Sub s.heap ((m,aZ)::s.heap):=by
   intro id z t;simp only[ag];have:(m==id)=false:=by
    simp only[fy,tK];intro e;rw[e,t]at o;cases o
   rw[this];exact t
  obtain⟨j,A,z,C,D⟩:=F5 p k g f;rw[D,Fp m aZ j s.heap (λi E e=>by obtain⟨q,u⟩:=C i E;rw[e,o]at u;cases u),<-A]
def Step.fresh{cf:aK}{x:aj}{s:St}{v:DV}{H:Heap}{n:Nat}(e:x.op.Hd=true)(h:Step cf x s v H n):
  (H=s.heap/\n=s.next/\∀b,Step cf x {s with heap:=b} v b s.next)\/
  ∃aZ,ag s.heap s.next=none/\H=(s.next,aZ)::s.heap/\n=s.next+1/\∀b,ag b s.next=none->Step cf x {s with heap:=b} v ((s.next,aZ)::b) (s.next+1):=by
 rcases h with⟨c,d,f,g⟩|⟨c,d⟩
 .exact .inl ⟨f,g,λb=>.inl ⟨c,d,rfl,rfl⟩⟩
 .obtain⟨aZ,i,j,k,l⟩:=UQ e d;exact .inr ⟨aZ,i,j,k,λb m=>.inr ⟨c,l b m⟩⟩
def DI{cf:aK}{x y:aj}(C:iE x y=true){s L M:St}(O:cX cf x s=some L)(Q:cX cf y L=some M):∃n,cX cf y s=some n/\cX cf x n=some M:=by
 unfold iE at C;simp only[aL,ji,cH]at C;obtain⟨D,d⟩:=C;obtain⟨o,p,a3⟩:=apart_spec D;obtain⟨h,Hx,T,q,rfl⟩:=en.1 O;obtain⟨e,r,t,A,rfl⟩:=en.1 Q;have u:dF (dF s.env x.dst h) y.dst e=dF (dF s.env y.dst e) x.dst h:=xA a3;rcases d with((d|d)|⟨i,j⟩)|⟨i,j⟩
 .obtain⟨rfl,rfl,g⟩:=q.blind d;have b:Step cf y s e r t:=by
   refine Step.congr ?_ ?_ ?_ A
   .exact λk c=>(dI (o k c)).symm
   .rfl
   .rfl
  refine⟨_,en.2 ⟨e,r,t,b,rfl⟩,en.2 ⟨h,r,t,?_,by rw[u]⟩⟩;refine Step.congr ?_ ?_ ?_ (g r t)
  .exact λk c=>dI (p k c)
  .rfl
  .rfl
 .obtain⟨rfl,rfl,g⟩:=A.blind d;have b:Step cf y s e s.heap s.next:=by
   refine Step.congr ?_ ?_ ?_ (g s.heap s.next)
   .exact λk c=>(dI (o k c)).symm
   .rfl
   .rfl
  refine⟨_,en.2 ⟨e,s.heap,s.next,b,rfl⟩,en.2 ⟨h,r,t,?_,by rw[u]⟩⟩;refine Step.congr ?_ ?_ ?_ q
  .exact λk c=>dI (p k c)
  .rfl
  .rfl
 .obtain⟨rfl,m,rfl,R,E⟩:=q.T3 i;obtain⟨rfl,S,rfl,F,v⟩:=A.T3 j;simp only at F v;obtain⟨f,G,H⟩:=v s.heap (Dw m s.heap).symm;have b:Step cf y s e (dp s.heap f) s.next:=by
   refine Step.congr ?_ ?_ ?_ G
   .exact λk c=>(dI (o k c)).symm
   .rfl
   .rfl
  obtain⟨l,I,J⟩:=E (dp s.heap f) (Dw f s.heap);refine⟨_,en.2 ⟨e,_,_,b,rfl⟩,en.2 ⟨h,dp (dp s.heap f) l,s.next,?_,?_⟩⟩
  .refine Step.congr ?_ ?_ ?_ I
   .exact λk c=>dI (p k c)
   .rfl
   .rfl
  .have:dp (dp s.heap m) S=dp (dp s.heap f) l:=by rw[<-H,Ai m,<-Ai l,J,Ai]
   rw[u,this]
 .obtain⟨rfl,m,rfl,K⟩:=q.grow i;rcases A.fresh j with⟨rfl,rfl,g⟩|⟨aZ,N,rfl,rfl,g⟩
  .have b:Step cf y s e s.heap s.next:=by
    refine Step.congr ?_ ?_ ?_ (g s.heap)
    .exact λk c=>(dI (o k c)).symm
    .rfl
    .rfl
   refine⟨_,en.2 ⟨e,s.heap,s.next,b,rfl⟩,en.2 ⟨h,dp s.heap m,s.next,?_,by rw[u]⟩⟩;refine Step.congr ?_ ?_ ?_ q
   .exact λk c=>dI (p k c)
   .rfl
   .rfl
  .simp only at N g⊢;have z:ag s.heap s.next=none:=Px _ _ _ N;have b:Step cf y s e ((s.next,aZ)::s.heap) (s.next+1):=by
    refine Step.congr ?_ ?_ ?_ (g s.heap z)
    .exact λk c=>(dI (o k c)).symm
    .rfl
    .rfl
   refine⟨_,en.2 ⟨e,_,_,b,rfl⟩,en.2 ⟨h,(s.next,aZ)::dp s.heap m,s.next+1,?_,by rw[u]⟩⟩;refine Step.congr ?_ ?_ ?_ (K s.next aZ (s.next+1) z)
   .exact λk c=>dI (p k c)
   .rfl
   .rfl
def oQ{cf:aK}{i:aj}{g:List aj}:∀(d:List aj) (s b:St),(∀j∈d,iE j i=true)->bO cf (d++i::g) s=some b->bO cf (i::(d++g)) s=some b
 |[],s,b,_,h=>h
 |j::r,s,b,l,h=>by
  simp only[List.cons_append,bO]at h;cases e:cX cf j s with
  |none=>rw[e]at h;cases h
  |some m=>
   rw[e]at h;have c:=oQ r m b (λk n=>l k (by simp[n])) h;simp only[bO]at c;cases f:cX cf i m with
   |none=>rw[f]at c;cases c
   |some t=>
    rw[f]at c;obtain⟨o,p,q⟩:=DI (l j az) e f;simp only[bO,p,List.cons_append,q];exact c
section
variable{P:Program}{B:Nat}{w0:World}{U0:Nat->Prop}{β:Place}{w:World}{nt:Cx}{s:St}{a:Act}{cf:aK}
def bJ.step(g:bJ B w0 U0 nt β s a w){v:DV}{u:Heap}{l:Nat}{x:Value}{A:World}(D:Good B w0 U0 s.heap s.next β w v u l x A){b:Option Nat}(C:∀k,b=some k->nt.bd.free k=true):
  ∃c,bJ B w0 U0 nt c {env:=dF s.env b v,heap:=u,next:=l,marks:=s.marks} (a.put b x) A:=by
 obtain⟨c,m,k,e,d⟩:=D;refine⟨c,⟨m,λi y f=>?_,?_,?_,g.keeps.trans k,g.cw.trans e,g.marks⟩⟩
 .cases b with
  |none=>
   obtain⟨z,n,o⟩:=g.env i y f;exact⟨z,n,o.cw k e⟩
  |some j=>
   simp only[dF]at f;rw[kb]at f;split at f
   .rename_i h;subst h;cases f;have p:j<a.tmps.size:=by rw[g.size];exact l7 (C j rfl)
    exact⟨x,by simp[Act.put,p],d⟩
   .rename_i h;obtain⟨z,n,o⟩:=g.env i y f;refine⟨z,?_,o.cw k e⟩;simp only[Act.put];rw[lq h];exact n
 .cases b<;>simp[Act.put,g.size]
 .refine⟨by cases b<;>simp[Act.put,g.defers.1],λq r=>?_⟩
  cases b with
  |none=>exact g.defers.2 q r
  |some j=>
   have t:j≠q:=λe=>AA (C j rfl) (e▸r)
   simp only[Act.put];rw[lq t];exact g.defers.2 q r
def Ac(g:bJ B w0 U0 nt β s a w){e:Array Oper}{o:Oper}{d:aj}(h:rZ e o d=true){b:Bool}(c:gd d.guard s.env=some b):Region.wanted o (yielded e a.tmps)=b:=by
 unfold rZ at h;split at h
 .rename_i i l;rw[l]at c;simp only[gd,ay]at c;simp[Region.wanted,i,<-c]
 .rename_i j D k u i l;rw[l]at c;simp only[aL,cH]at h;obtain⟨rfl,f⟩:=h;cases m:(e[j]?).bind (·.dst)with
  |none=>rw[m]at f;cases f
  |some x=>
   rw[m]at f;simp only[cH]at f;subst f;simp only[gd]at c;simp only[Region.wanted,i,yielded,m,MJ];cases n:ag s.env x with
   |none=>rw[n]at c;cases c
   |some v=>
    rw[n]at c;obtain⟨z,y,r⟩:=g.env _ _ n;rw[y];cases v with
    |p q=>
     cases q with
     |bool t=>
      simp only[ay]at c;obtain rfl:=r.ly;simp[<-c]
     |_=>cases c
    |tuple A=>
     cases A with
     |nil=>
      simp only[ay]at c;cases r with|tuple _ C E _=>
      simp[<-c]
     |cons _ _=>cases c
    |_=>cases c
 .cases h
def V4{o:Oper}{d:aj}(h:CE nt.bd o d=true):o.dst=d.dst/\∀k,d.dst=some k->nt.bd.free k=true:=by
 unfold CE at h;split at h
 .rename_i c b;exact⟨by rw[c,b],λk e=>by rw[b]at e;cases e⟩
 .rename_i x y c b;simp only[aL,cH,df]at h;exact⟨by rw[c,b,h.1],λk e=>by rw[b]at e;cases e;exact h.2⟩
 .cases h
def jA(t:bV P cf)(g:bJ B w0 U0 nt β s a w){ops:Array Oper}{o:Oper}{d:aj}(u:CE nt.bd o d=true)(l:rZ ops o d=true)(y:oM P o.op d.op=true){m:St}(z:cX cf d s=some m){K:Act->World->Prop}{Q:Exit->Act->World->Prop}
  (p:∀q e b,bJ B w0 U0 nt b m q e->K q e):if Region.wanted o (yielded ops a.tmps)then o.wp P a w K Q\/(o.asks P a w/\LetsOut Q)else K (a.put o.dst undef) w:=by
 obtain⟨r,c⟩:=V4 u;obtain⟨v,H,n,f,rfl⟩:=en.1 z;rcases f with⟨h,rfl,rfl,rfl⟩|⟨h,i⟩
 .rw[Ac g l h];simp only[Bool.false_eq_true,cK];obtain⟨b,j⟩:=g.step (bm g.mem bg.undef) c;rw[r];exact p _ _ _ j
 .rw[Ac g l h];simp only[cQ];refine .inl (PO t g y i λx e k=>?_);obtain⟨b,j⟩:=g.step k c;rw[r];exact p _ _ _ j
def uP(p:bV P cf){f:Array Oper}{Q:Exit->Act->World->Prop}:∀(i:List Oper) (j:List aj),cm P nt.bd f i j=true->∀(s:St) (a:Act) (w:World) (β:Place) (h:St),bJ B w0 U0 nt β s a w->bO cf j s=some h->
  (∀k l c,bJ B w0 U0 nt c h k l->Q .normal k l)->wpList P f Q i a w
 |[],[],_,s,a,w,β,h,g,b,m=>by
  simp only[bO,ay]at b;subst b;exact m _ _ _ g
 |o::i,d::j,e,s,a,w,β,h,g,b,m=>by
  simp only[cm,aL]at e;obtain⟨⟨⟨q,r⟩,t⟩,u⟩:=e;simp only[bO]at b;cases n:cX cf d s with
  |none=>rw[n]at b;cases b
  |some v=>
   rw[n]at b;simp only[wpList];exact jA p g q r t n λk l c x=>uP p i j u v k l c h x b m
 |[],_::_,e,_,_,_,_,_,_,_,_=>by simp[cm]at e
 |_::_,[],e,_,_,_,_,_,_,_,_=>by simp[cm]at e
def fZ{b:Array Oper}:∀(c:List Oper) (e:List aj),cm P nt.bd b c e=true->c.length=e.length/\∀(i:Nat) (o:Oper) (d:aj),c[i]?=some o->e[i]?=some d->CE nt.bd o d=true/\rZ b o d=true/\oM P o.op d.op=true
 |[],[],_=>⟨rfl,az⟩
 |o::c,d::e,h=>by
  simp only[cm,aL]at h;obtain⟨⟨⟨j,k⟩,l⟩,m⟩:=h;obtain⟨n,p⟩:=fZ c e m;refine⟨by simp[n],λi q r f g=>?_⟩;cases i with
  |zero=>simp only[List.getElem?_cons_zero,ay]at f g;subst f;subst g;exact⟨j,k,l⟩
  |succ i=>simp only[List.getElem?_cons_succ]at f g;exact p i q r f g
 |[],_::_,h=>by simp[cm]at h
 |_::_,[],h=>by simp[cm]at h
def yG{b:List aj}:∀(k:Nat) (f:List Oper) (g:List aj),nA b k f g=true->∀(i:Nat) (o:Oper) (d:aj),f[i]?=some o->g[i]?=some d->
  (∀p∈direct o,p∈d.dy)/\(∀p∈d.dy,p<k+i/\(p∈direct o\/∃q∈direct o,∃e,b[q]?=some e/\p∈e.dy))/\∀j,j<k+i->j∈d.dy\/∃e,b[j]?=some e/\iE e d=true
 |k,[],[],_,i,o,d,h,_=>by simp at h
 |k,o::f,d::g,h,i,t,u,l,m=>by
  simp only[nA,aL]at h;obtain⟨⟨⟨v,x⟩,y⟩,z⟩:=h;cases i with
  |zero=>
   simp only[List.getElem?_cons_zero,ay]at l m;subst l;subst m;refine⟨λp r=>?_,λp r=>?_,λj A=>?_⟩
   .have:=List.all_eq_true.1 v p r;simpa using this
   .have:=List.all_eq_true.1 x p r;simp only[aL,df,ji,List.contains_iff_mem,List.any_eq_true]at this;refine⟨ae,?_⟩;rcases this.2 with h|⟨q,C,n⟩
    .exact .inl h
    .right;refine⟨q,C,?_⟩;cases c:b[q]? with
     |none=>rw[c]at n;cases n
     |some e=>rw[c]at n;exact⟨e,rfl,by simpa using n⟩
   .have:=List.all_eq_true.1 y j (by simpa using A);simp only[ji,List.contains_iff_mem]at this;rcases this with h|h
    .exact .inl h
    .right;cases c:b[j]? with
     |none=>rw[c]at h;cases h
     |some e=>rw[c]at h;exact⟨e,rfl,h⟩
  |succ i=>
   simp only[List.getElem?_cons_succ]at l m;have:=yG (k+1) f g z i t u l m;rw[show k+(i+1)=k+1+i from ae];exact this
 |k,[],_::_,h,_,_,_,_,_=>by simp[nA]at h
 |k,_::_,[],h,_,_,_,_,_=>by simp[nA]at h
def todo(b:List aj)(R:List Nat):List aj:=R.filterMap (b[·]?)
def M1(hc:bV P cf){c:Array Oper}{u:List aj}(hm:cm P nt.bd c c.toList u=true)(ho:nA u 0 c.toList u=true){Q:Exit->Act->World->Prop}{s':St}(hQ:∀a' w' J,bJ B w0 U0 nt J s' a' w'->Q .normal a' w'):
  ∀(n:Nat) (b:Array Bool) (R:List Nat) (s:St) (a:Act) (w:World) (β:Place),R.length<=n->b.size=c.size->R.Pairwise (·<·)->(∀i,i∈R↔i<c.size/\b.getD i true=false)->
   (∀i d,b.getD i false=true->u[i]?=some d->∀p∈d.dy,b.getD p false=true)->bJ B w0 U0 nt β s a w->bO cf (todo u R) s=some s'->
   wpAny P .any c Q n b a w:=by
 obtain⟨Z,x0⟩:=fZ _ _ hm;have H:=yG 0 _ _ ho;simp only[jV]at Z;have t:∀(b:Array Bool) (i:Nat),i∈Region.ready .any c b↔i<c.size/\b.getD i true=false/\∃o,c[i]?=some o/\∀p∈direct o,b.getD p false=true:=by
  intro b i;unfold Region.ready;simp only[List.mem_filter,List.mem_range,aL,kD];constructor
  .rintro⟨L,M,h3⟩;have m:=nW L;rw[m]at h3;simp only[Option.map_some,ka]at h3;refine⟨L,M,c[i],m,λp F=>?_⟩;unfold direct at F;obtain⟨e,A,rfl⟩:=List.mem_map.1 F;obtain⟨xe,xf⟩:=List.mem_filter.1 A;have:=(tW.1 h3) e (by simpa using xe);simpa[xf]using this
  .rintro⟨L,M,o,m,h3⟩;refine⟨L,M,?_⟩;rw[m];simp only[Option.map_some,ka];rw[tW];intro e A;by_cases hb:Region.binds .any e=true
   .simp only[hb,Bool.not_true,Bool.false_or];exact h3 e.on (List.mem_map.2 ⟨e,List.mem_filter.2 ⟨by simpa using A,hb⟩,rfl⟩)
   .simp only[CN]at hb;simp[hb]
 intro n;induction n with
 |zero=>
  intro b R s a w β hR G v f C g N;have xg:R=[]:=List.eq_nil_of_length_eq_zero ae;subst xg;simp only[todo,List.filterMap_nil,bO,ay]at N;subst N;refine⟨?_,hQ _ _ _ g⟩;cases hr:Region.ready .any c b with
  |nil=>rfl
  |cons i r=>
   have:=(t b i).1 (by rw[hr];simp);exact absurd ((f i).2 ⟨this.1,this.2.1⟩) az
 |succ n ih=>
  intro b R s a w β hR G v f C g N;constructor
  .intro hr;cases x2:R with
   |nil=>
    subst x2;simp only[todo,List.filterMap_nil,bO,ay]at N;subst N;exact hQ _ _ _ g
   |cons i r=>
    exfalso;subst x2;obtain⟨X,O⟩:=(f i).1 az;have m:=nW X;have z:u[i]?=some (u[i]'ae):=List.getElem?_eq_getElem ae;obtain⟨k1,k2,_⟩:=H i _ _ (by rw[eG];exact m) z;have:i∈Region.ready .any c b:=(t b i).2 ⟨X,O,_,m,λp F=>by
     have xy:=(k2 p (k1 p F)).1;have x3:p∉i::r:=by
      intro xi;rcases List.mem_cons.1 xi with h|h
      .omega
      .have:=(List.pairwise_cons.1 v).1 p h;omega
     have xj:p<c.size:=ae;have D:¬b.getD p true=false:=λh=>x3 ((f p).2 ⟨xj,h⟩)
     have x4:p<b.size:=ae;simp[x4]at D⊢;exact D⟩
    rw[hr]at this;simp at this
  .intro i xk;obtain⟨X,O,o,m,I⟩:=(t b i).1 xk;have z:u[i]?=some (u[i]'ae):=List.getElem?_eq_getElem ae;generalize xz:u[i]'ae=d at z;obtain⟨k1,k2,k3⟩:=H i o d (by rw[eG];exact m) z;obtain⟨m1,m2,m3⟩:=x0 i o d (by rw[eG];exact m) z;have xl:i∈R:=(f i).2 ⟨X,O⟩;obtain⟨S,Y,rfl⟩:=List.append_of_mem xl;have D:∀p∈d.dy,b.getD p false=true:=by
    intro p F;rcases(k2 p F).2 with h|⟨q,hq,e,A,xm⟩
    .exact I p h
    .exact C q e (I q hq) A p xm
   have hs:=List.pairwise_append.1 v;have x7:=List.pairwise_cons.1 hs.2.1;have T:∀j∈todo u S,iE j d=true:=by
    intro j hj;obtain⟨q,hq,xn⟩:=List.mem_filterMap.1 hj;have y4:q<i:=hs.2.2 q hq i az;rcases k3 q ae with h|⟨e,A,xo⟩
    .have L:=D q h;have M:=((f q).1 (by simp[hq])).2;have xp:q<b.size:=by have:=((f q).1 (by simp[hq])).1;omega
     simp[xp]at L M;rw[L]at M;cases M
    .rw[xn]at A;cases A;exact xo
   have U:todo u (S++i::Y)=todo u S++d::todo u Y:=by
    simp only[todo,List.filterMap_append,List.filterMap_cons,z]
   rw[U]at N;have l:=oQ _ _ _ T N;simp only[bO]at l;cases V:cX cf d s with
   |none=>rw[V]at l;cases l
   |some s1=>
    rw[V]at l;have aC:∀k,(b.setIfInBounds i true).getD k true=if k=i then true else b.getD k true:=by
     intro k;rw[dH,dH];by_cases e:k=i
     .subst e;simp[G,X]
     .rw[lq (λh=>e h.symm),ak e]
    have E:∀k,(b.setIfInBounds i true).getD k false=true↔k=i\/b.getD k false=true:=by
     intro k;rw[dH,dH];by_cases e:k=i
     .subst e;simp[G,X]
     .rw[lq (λh=>e h.symm)];simp[e]
    have x8:=jA (P:=P) (ops:=c) (Q:=Q) hc g m1 m2 m3 V (K:=wpAny P .any c Q n (b.setIfInBounds i true)) λa' w' J g'=>by
     refine ih (b.setIfInBounds i true) (S++Y) s1 a' w' J (by simp at hR⊢;omega) (by simp[G]) ?_ ?_ ?_ g' ?_
     .refine List.pairwise_append.2 ⟨hs.1,x7.2,λx hx y hy=>hs.2.2 x hx y (by simp[hy])⟩
     .intro k;rw[aC];constructor
      .intro hk;have xq:k∈S++i::Y:=by
        rcases List.mem_append.1 hk with h|h
        .exact List.mem_append.2 (.inl h)
        .exact List.mem_append.2 (.inr (by simp[h]))
       obtain⟨g1,g2⟩:=(f k).1 xq;have W:k≠i:=by
        rintro rfl;rcases List.mem_append.1 hk with h|h
        .have:=hs.2.2 k h k az;omega
        .have:=x7.1 k h;omega
       rw[ak W];exact⟨g1,g2⟩
      .rintro⟨g1,g2⟩;split at g2
       .cases g2
       .rename_i W;have:=(f k).2 ⟨g1,g2⟩;rcases List.mem_append.1 this with h|h
        .exact List.mem_append.2 (.inl h)
        .rcases List.mem_cons.1 h with h|h
         .exact absurd h W
         .exact List.mem_append.2 (.inr h)
     .intro k e hk A p F;rw[E];rcases(E k).1 hk with h|h
      .subst h;rw[z]at A;cases A;exact .inr (D p F)
      .exact .inr (C k e h A p F)
     .rw[show todo u (S++Y)=todo u S++todo u Y from by simp[todo,List.filterMap_append]];exact l
    unfold wpOp;rw[m];exact x8
def wz{b:Type}:∀(l pre:List b),(List.range' pre.length l.length).filterMap ((pre++l)[·]?)=l
 |[],pre=>az
 |x::l,pre=>by
  have c:(pre++x::l)[pre.length]?=some x:=az;rw[List.length_cons,List.range'_succ,List.filterMap_cons,c];have:=wz l (pre++[x]);rw[List.length_append,List.length_singleton,List.append_assoc,List.singleton_append]at this;simp only[this]
def zU(b:List aj):todo b (List.range b.length)=b:=by
 have:=wz b [];rw[List.length_nil,List.nil_append]at this;rw[todo,List.range_eq_range'];exact this
def rj(p:bV P cf)(f:P.follows .mixedOrders=true){id:Nat}{b:Array Oper}{c:Bool}{k:List aj}(m:cm P nt.bd b b.toList k=true)(q:(!c||nA k 0 b.toList k)=true)(g:bJ B w0 U0 nt β s a w){n:St}(l:bO cf k s=some n)
  {Q:Exit->Act->World->Prop}(r:∀t u o,bJ B w0 U0 nt o n t u->Q .normal t u):(Code.region id b c).wp P Q a w:=by
 cases c with
 |false=>exact wp_region_list (uP p _ _ m s a w β n g l r)
 |true=>
  simp only[Bool.not_true,Bool.false_or]at q;refine wp_region_any f ?_;obtain⟨e,_⟩:=fZ _ _ m;simp only[jV]at e;have y:bJ B w0 U0 nt β s a w.drew:=by
   obtain⟨z,k1⟩:=g.mem.call (eK w.heap.size w);refine⟨z,λi d l=>?_,g.size,g.defers,g.keeps.trans k1,g.cw,g.marks⟩;obtain⟨v,A,C⟩:=g.env i d l;exact⟨v,A,C.cw k1 (mn.refl _ _ _)⟩
  refine M1 p m q r b.size (Array.replicate b.size false) (List.range b.size) s a w.drew β az az (by rw[List.pairwise_iff_getElem];intro i j x D h;simpa using h) (λi=>?_) (λi d h _=>?_) y ?_
  .simp only[List.mem_range];constructor
   .intro h;exact⟨h,by simp[h]⟩
   .exact λh=>h.1
  .exfalso;by_cases x:i<b.size<;>simp[x]at h
  .rw[e,zU];exact l
end
end
end Go.Dv
