/- Lemmas for the law of this claim. -/
import Derived.Test.YtcphhjkcgikdgaaGreatDoorP17
import Derived.ChangeArms
import Derived.ChangeShapes
import Derived.WideShapes
import Derived.Test.YtcphhjkcgikdgaaGreatDoorRows
import Derived.WalkKit
import Derived.ProofKit
import Derived.JoinedOf
set_option linter.all false
namespace Go.Dv
section
open Go.RowKit
def nf(P:Program)(a:TypeId->Option (List Sh)):Nat->List Field->Option (List Sh)
 |_,[]=>some []
 |o,f::r=>match a f.type with
  |some l=>if f.offset=o/\l.length=P.cellsOf f.type then match nf P a (o+l.length) r with
    |some q=>some (l++q)
    |none=>none
   else none
  |none=>none
def qv(P:Program):Nat->TypeId->Option (List Sh)
 |0,_=>none
 |n+1,t=>match P.underlying t with
  |some .bool=>some [.bool]
  |some (.int k)=>some [.int k]
  |some .string=>some [.str]
  |some (.slice e)=>match th e with
   |some _=>some [.rows e]
   |none=>match qv P n e with
    |some l=>if l.length=P.cellsOf e/\0<l.length then some [.slice l]else none
    |none=>none
  |some (.struct a)=>match nf P (qv P n) 0 a.toList with
   |some l=>if l.length=P.cellsOf t then some l else none
   |none=>none
  |_=>none
inductive Fit:Sh->PV->Prop
 |int (k:IntKind) (n:Int) (h:(Lit.int k n).wf=true):Fit (.int k) (.int k n)
 |bool (b:Bool):Fit .bool (.bool b)
 |str (s:ByteArray) (h:s.size<=maxLen):Fit .str (.str s)
 |slice (l:List Sh) (xs:List (List PV)) (h:xs.length<=maxLen) (hl:∀x∈xs,x.length=l.length)
  (hr:∀(i:Nat) x (j:Nat) s y,xs[i]?=some x->l[j]?=some s->x[j]?=some y->Fit s y):Fit (.slice l) (.slice false xs)
 |rows (t:Nat) (l:List Sh) (xs:List (List PV)) (he:th t=some l) (h:xs.length<=maxLen) (hl:∀x∈xs,x.length=l.length)
  (hr:∀(i:Nat) x (j:Nat) s y,xs[i]?=some x->l[j]?=some s->x[j]?=some y->Fit s y):Fit (.rows t) (.slice false xs)
def Hd(P:Program):Prop:=∀t l,th t=some l->(∃m,qv P m t=some l)/\l.length=P.cellsOf t/\0<l.length
def Fits(l:List Sh)(a:List PV):Prop:=a.length=l.length/\∀(j:Nat) s y,l[j]?=some s->a[j]?=some y->Fit s y
def Fits.nil{a:List PV}(h:Fits [] a):a=[]:=by simpa using h.1
def Fits.cons{s:Sh}{l:List Sh}{a:List PV}(h:Fits (s::l) a):∃y r,a=y::r/\Fit s y/\Fits l r:=by
 cases a with
 |nil=>simp[Fits]at h
 |cons y r=>exact⟨y,r,rfl,h.2 0 s y rfl rfl,by have:=h.1;simpa using this,λj b c d e=>h.2 (j+1) b c (by simpa using d) (by simpa using e)⟩
def Fits.append{l m:List Sh}{p q:List PV}(h:Fits l p)(k:Fits m q):Fits (l++m) (p++q):=by
 refine⟨by simp[h.1,k.1],λj s y a b=>?_⟩;by_cases c:j<l.length
 .rw[List.getElem?_append_left c]at a;rw[List.getElem?_append_left (by rw[h.1];exact c)]at b;exact h.2 j s y a b
 .rw[List.getElem?_append_right ae]at a;rw[List.getElem?_append_right (by rw[h.1];omega),h.1]at b;exact k.2 _ s y a b
def wT{b:Type}{R:Nat->b->Prop}:∀(n:Nat),(∀i,i<n->∃y,R i y)->∃l:List b,l.length=n/\∀i y,l[i]?=some y->R i y
 |0,_=>⟨[],rfl,aB⟩
 |n+1,h=>by
  obtain⟨l,d,f⟩:=wT n λi c=>h i ae
  obtain⟨y,g⟩:=h n ae;refine⟨l++[y],by simp[d],λi z a=>?_⟩;by_cases c:i<l.length
  .rw[List.getElem?_append_left c]at a;exact f i z a
  .rw[List.getElem?_append_right ae]at a;by_cases e:i-l.length=0
   .rw[e]at a;simp at a;subst a;have:i=n:=ae;rw[this];exact g
   .have:∃m,i-l.length=m+1:=⟨i-l.length-1,ae⟩;obtain⟨m,j⟩:=this;rw[j]at a;simp at a
def qt(w:World)(a:List PV)(b:List Value):Prop:=
 b.length=a.length/\∀(j:Nat) y,a[j]?=some y->∃v,b[j]?=some v/\bP w (λ_=>False) y v/\v.oneCell'=true
def Addr.NR(a:Addr)(h:a.spot=none)(n:Nat):a.add n=⟨a.block,a.off+n,none⟩:=by
 unfold Addr.add;split
 .rename_i e;subst e;cases a;simp at h;subst h;rfl
 .cases a;rfl
section
variable{H:Type}{enc:TypeId×Value->H}{P:Program}{w:World}{base:Nat}{spare:Nat->Bool}{held:Bool}
def qt.get{b:List PV}{a:Array Value}(h:qt w b a.toList):a.size=b.length/\∀(j:Nat) y,b[j]?=some y->bP w (λ_=>False) y (a.getD j undef)/\(a.getD j undef).oneCell'=true:=by
 refine⟨by simpa using h.1,λj y c=>?_⟩;obtain⟨v,d,e⟩:=h.2 j y c;have:a[j]?=some v:=by simpa using d
 rw[dA,this];exact e
def sn.law{f:FuncId}{args:List PV}(h:sn P f args (.bool true))(w:World)(b:lK w.heap.size w){vs:Array Value}(c:vs.size=args.length)(d:∀j p,args[j]?=some p->bP w (λ_=>False) p (vs.getD j undef)):
  Calls P f vs w λe a=>e=.returned (.bool true)/\Below w.heap.size w a:=by
 refine(h.2 (λ_=>False) w vs (λ_ h=>h.elim) b c d).mono ?_;rintro e a ⟨v,rfl,g,i⟩;cases g;exact⟨rfl,i⟩
end
end
section
open Go.RowKit
mutual
def dK:PV->Nat
 | .slice _ a=>iZ a+1
 | .str s=>s.size+1
 |_=>1
def cU:List PV->Nat
 |[]=>0
 |x::r=>dK x+cU r
def iZ:List (List PV)->Nat
 |[]=>0
 |x::r=>cU x+iZ r
end
def uV:∀(a b:List PV),cU (a++b)=cU a+cU b
 |[],b=>by simp[cU]
 |x::a,b=>by simp only[List.cons_append,cU,uV a b];omega
structure QL(H:Type) where
 bk:DataW H->Nat
 all:List (DataW H)->Nat
 one:∀d,1<=bk d
 str:∀b:List UInt8,b.length+1<=bk (.lit (.string b))
 slice:∀e s,all e+1<=bk (.slice e s)
 agg:∀p,all p<=bk (.agg p)
 cons:∀d r,all (d::r)=bk d+all r
def CR{H:Type}(B:QL H):∀(a:List (List PV)) (b:List (DataW H×List MemPlace)),a.length=b.length->(∀(i:Nat) y,a[i]?=some y->∃c,b[i]?=some c/\cU y<=B.bk c.1)->iZ a<=B.all (b.map (·.1))
 |[],b,_,_=>Nat.zero_le _
 |x::a,[],h,_=>by simp at h
 |x::a,e::b,h,d=>by
  obtain⟨c,f,j⟩:=d 0 x rfl;simp at f;subst f;have k:=CR B a b (by simpa using h) λi y g=>d (i+1) y (by simpa using g)
  rw[List.map_cons,B.cons];simp only[iZ];omega
section
variable{H:Type}(B:QL H){enc:TypeId×Value->H}{P:Program}{w:World}{base:Nat}{spare:Nat->Bool}{held:Bool}
include B in
theorem wY{rec:TypeId->Option (List Sh)}{n:Nat}{cs:List Value}(E:∀t l cs x,rec t=some l->DataW.trod enc P w base spare held n t cs=some x->∃a,Fits l a/\qt w a cs/\cU a<=B.bk x.1):
  ∀(m:List Field) (b:List (DataW H×List MemPlace)) (o:Nat) (l:List Sh),nf P rec o m=some l->b.length=m.length->(∀(i:Nat) f,m[i]?=some f->DataW.trod enc P w base spare held n f.type ((cs.drop f.offset).take (P.cellsOf f.type))=b[i]?)->
   ∃a,Fits l a/\qt w a ((cs.drop o).take l.length)/\cU a<=B.all (b.map (·.1))
 |[],b,o,l,h,_,_=>by
  simp only[nf,aw]at h;subst h;exact⟨[],⟨rfl,aB⟩,⟨aB,aB⟩,Nat.zero_le _⟩
 |f::r,[],o,l,h,J,p=>by simp at J
 |f::r,x::b,o,l,h,e,p=>by
  simp only[nf]at h;cases q:rec f.type with
  |none=>rw[q]at h;cases h
  |some s=>
   rw[q]at h;simp only at h;split at h
   .rename_i F;cases u:nf P rec (o+s.length) r with
    |none=>rw[u]at h;cases h
    |some K=>
     rw[u]at h;simp only[aw]at h;subst h;have L:DataW.trod enc P w base spare held n f.type ((cs.drop f.offset).take (P.cellsOf f.type))=some x:=p 0 f rfl;obtain⟨k,z,⟨G,I⟩,V⟩:=E f.type s _ x q L;obtain⟨A,C,⟨M,N⟩,W⟩:=wY E r b (o+s.length) K u (by simpa using e) λi g O=>p (i+1) g (by simpa using O)
     rw[F.1,<-F.2]at G I;refine⟨k++A,z.append C,⟨?_,λj y c=>?_⟩,?_⟩
     .have Q:=z.1;have R:=C.1;simp only[List.length_take,List.length_drop,List.length_append]at G M⊢;omega
     .have Q:=z.1;by_cases S:j<k.length
      .rw[List.getElem?_append_left S]at c;obtain⟨v,d,D⟩:=I j y c;refine⟨v,?_,D⟩;rw[List.getElem?_take]at d⊢;rw[aq ae]at d;rw[aq (by simp;omega)];exact d
      .rw[List.getElem?_append_right ae]at c;obtain⟨v,d,D⟩:=N _ y c;have T:j-k.length<A.length:=by
        by_cases U:j-k.length<A.length
        .exact U
        .rw[List.getElem?_eq_none ae]at c;cases c
       have R:=C.1;refine⟨v,?_,D⟩;rw[List.getElem?_take,aq ae,List.getElem?_drop]at d;rw[List.getElem?_take,aq (by simp;omega),List.getElem?_drop,<-d];congr 1;omega
     .rw[uV,List.map_cons,B.cons];omega
   .cases h
include B in
theorem M1(hR:Hd P):∀(n m:Nat) (t:TypeId) (l:List Sh) (M:List Value) (x:DataW H×List MemPlace),qv P m t=some l->DataW.trod enc P w base spare held n t M=some x->
  ∃p,Fits l p/\qt w p M/\cU p<=B.bk x.1:=by
 intro n;induction n with
 |zero=>intro m t l M x h I;unfold DataW.trod at I;cases I
 |succ n ih=>
  intro m t l M x h I;cases m with
  |zero=>cases h
  |succ m=>
  simp only[qv]at h;have one:∀(s:Sh) (y:PV) (v:Value),Fit s y->bP w (λ_=>False) y v->v.oneCell'=true->dK y<=B.bk x.1->∃p,Fits [s] p/\qt w p [v]/\cU p<=B.bk x.1:=by
   intro s y v d C Y N;refine⟨[y],⟨rfl,λj s' y' a b=>?_⟩,⟨rfl,λj y' b=>?_⟩,by simp only[cU];omega⟩
   .cases j with
    |zero=>simp at a b;subst a;subst b;exact d
    |succ j=>simp at a
   .cases j with
    |zero=>simp at b;subst b;exact⟨v,rfl,C,Y⟩
    |succ j=>simp at b
  split at h
  .rename_i L;cases h;obtain⟨b,rfl,_⟩:=DataW.trod_bool L I;exact one _ _ _ (.bool b) (.bool b) rfl (B.one _)
  .rename_i k L;cases h;obtain⟨b,rfl,_,hw⟩:=DataW.trod_int L I;exact one _ _ _ (.int k b hw) (.int k b) rfl (B.one _)
  .rename_i L;cases h;obtain⟨b,rfl,rfl,hw⟩:=DataW.trod_string L I;exact one _ _ _ (.str b hw) (.str b) rfl (by
    have h0:=B.str b.data.toList;have e:b.data.toList.length=b.size:=by rw[jz];rfl
    rw[e]at h0;exact h0)
  .rename_i e L;have sl:∀(g:List Sh) (s:Sh) (Z:Nat),qv P Z e=some g->g.length=P.cellsOf e->0<g.length->
     (∀o:List (List PV),o.length<=maxLen->(∀x∈o,x.length=g.length)->(∀(i:Nat) x (j:Nat) s y,o[i]?=some x->g[j]?=some s->x[j]?=some y->Fit s y)->Fit s (.slice false o))->
     ∃p,Fits [s] p/\qt w p M/\cU p<=B.bk x.1:=by
    intro g s Z he hc O mk;rcases DataW.trod_slice L I with⟨rfl,_⟩|⟨a,V,x1,E,xl,k,hk,rfl,W,_,hl,hm,xm,xb,_,_⟩
    .exact one _ _ _ (mk [] aB aB aB) (.none false none 0 aB) rfl (B.one _)
    .have x2:∀i,i<V->∃y:List PV,Fits g y/\(∃el,E[i]?=some el/\cU y<=B.bk el.1)/\∃q,w.cells? base (a.add (i*g.length)) g.length=some q/\qt w y q:=by
      intro i hi;have d:=xb i hi;rw[List.getElem?_eq_getElem ae]at d;rw[<-hc]at d;cases x3:w.cells? base (a.add (i*g.length)) g.length with
      |none=>rw[x3]at d;cases d
      |some q=>
       rw[x3]at d;simp only[M9]at d;cases hk;obtain⟨p,F,J,G⟩:=ih Z e g q _ he d;exact⟨p,F,⟨_,List.getElem?_eq_getElem ae,G⟩,q,rfl,J⟩
     obtain⟨o,xd,D⟩:=wT V x2;by_cases h0:V=0
     .subst h0;exact one _ _ _ (mk [] aB aB aB) (.none false (some a) x1 aB) rfl (B.one _)
     .have r:a.spot=none:=by
       obtain⟨y,K⟩:∃y,o[0]?=some y:=⟨_,List.getElem?_eq_getElem ae⟩;obtain⟨_,_,q,F,_⟩:=D 0 y K;obtain⟨_,J,G⟩:=World.cells?_some F;have Q:=G 0 O;rw[List.getElem?_eq_getElem ae]at Q;have e0:(a.add (0*g.length)).add 0=a:=by simp[Addr.add]
       rw[e0]at Q;unfold World.cell? at Q;split at Q
       .split at Q
        .cases Q
        .rename_i hs;simpa using hs
       .cases Q
      have R:∀i y,o[i]?=some y->∀j z,y[j]?=some z->∃v,w.cell? ⟨a.block,a.off+i*g.length+j,none⟩=some v/\bP w (λ_=>False) z v/\v.oneCell'=true:=by
       intro i y K j z N;obtain⟨f1,_,q,F,J,G⟩:=D i y K;obtain⟨_,Q,g5⟩:=World.cells?_some F;obtain⟨v,S,e2⟩:=G j z N;have hj:j<g.length:=by
        have:=f1.1;by_cases hh:j<y.length
        .omega
        .rw[List.getElem?_eq_none ae]at N;cases N
       have:=g5 j hj;rw[Addr.NR a r,Addr.NR _ rfl,S]at this;exact⟨v,this,e2⟩
      obtain⟨u,T,fz,hb⟩:∃u T fz,w.heap[a.block]?=some (.cells u T fz):=by
       obtain⟨y,K⟩:∃y,o[0]?=some y:=⟨_,List.getElem?_eq_getElem ae⟩;obtain⟨f1,_⟩:=D 0 y K;obtain⟨z,N⟩:∃z,y[0]?=some z:=⟨_,List.getElem?_eq_getElem (by rw[f1.1];exact O)⟩;obtain⟨v,hv,_⟩:=R 0 y K 0 z N;unfold World.cell? at hv;split at hv
       .rename_i c T fz hh;exact⟨c,T,fz,hh⟩
       .cases hv
      have A:∀i y,o[i]?=some y->∀j z,y[j]?=some z->∃v,u[a.off+i*g.length+j]?=some v/\bP w (λ_=>False) z v/\v.oneCell'=true:=by
       intro i y K j z N;obtain⟨v,d,C⟩:=R i y K j z N;unfold World.cell? at d;simp only[hb]at d;exact⟨v,by simpa using d,C⟩
      have U:∀x∈o,x.length=g.length:=by
       intro x I;obtain⟨i,hi,rfl⟩:=List.mem_iff_getElem.1 I;exact(D i _ (List.getElem?_eq_getElem hi)).1.1
      have ha:a=⟨a.block,a.off,none⟩:=by cases a;simp at r;subst r;rfl
      refine one _ (.slice false o) _ (mk o ae U λi x j s y d C Y=>(D i x d).1.2 j s y C Y) ?_ rfl ?_
      case refine_2=>
       rw[W];refine dL (Nat.succ_le_succ (CR B o E ae λi y K=>(D i y K).2.1)) (B.slice _ _)
      rw[ha,<-xd];refine .slice false o a.block a.off x1 g.length u T fz (λi j=>u.getD (a.off+i*g.length+j) undef) ae ae aB hb (λh=>h) U ?_ ?_ ?_
      .intro i x j y d C;obtain⟨v,S,_⟩:=A i x d j y C;rw[S];rw[dA,S];rfl
      .intro i x j y d C;obtain⟨v,S,_,e3⟩:=A i x d j y C
       show(u.getD _ undef).oneCell'=true
       rw[dA,S];exact e3
      .intro i x j y d C;obtain⟨v,S,e2,_⟩:=A i x d j y C
       show bP w _ y (u.getD _ undef)
       rw[dA,S];exact e2
   cases hr:th e with
   |some l2=>
    rw[hr]at h;cases h;obtain⟨⟨Z,d⟩,C,Y⟩:=hR e l2 hr;exact sl l2 _ Z d C Y λo F J G=>.rows e l2 o hr F J G
   |none=>
   rw[hr]at h;simp only at h;cases he:qv P m e with
   |none=>rw[he]at h;cases h
   |some g=>
    rw[he]at h;simp only at h;split at h
    .rename_i hc;cases h;exact sl g _ m he hc.1 hc.2 λo F J G=>.slice g o F J G
    .cases h
  .rename_i fs L;cases X:nf P (qv P m) 0 fs.toList with
   |none=>rw[X]at h;cases h
   |some l0=>
   rw[X]at h;simp only at h;split at h
   case isFalse=>cases h
   rename_i y0;cases h;obtain⟨o,k,hk,W,hl,hn,hf⟩:=DataW.trod_struct L I;cases hk;obtain⟨p,F,J,G⟩:=wY B (rec:=qv P m) (n:=n) (cs:=M) (λt l M x a b=>ih m t l M x a b) fs.toList o 0 l X (by simpa using hn) (λi f xi=>hf i f (by simpa using xi));rw[List.drop_zero,List.take_of_length_le ae]at J;exact⟨p,F,J,by rw[W];exact dL G (B.agg _)⟩
  .cases h
include B in
theorem Pb(hR:Hd P){t:TypeId}{m:Nat}{s:Sh}(c:qv P m t=some [s]){v:Value}(e:v.cells=#[v]){d:DataW H}{f:List MemPlace}(h:DataW.Trod enc P w base spare held t v d f):
  ∃q,Fit s q/\bP w (λ_=>False) q v/\dK q<=B.bk d:=by
 obtain⟨a,g⟩:=h;obtain⟨u,i,j,k⟩:=M1 B hR a m t [s] _ _ c g;obtain⟨q,r,rfl,l,n⟩:=i.cons;obtain⟨x,b,o,_⟩:=j.2 0 q rfl;rw[e]at b;simp at b;subst b;have p:=n.nil;subst p;exact⟨q,l,o,by simpa[cU]using k⟩
include B in
theorem uk(hR:Hd P){t e:TypeId}(g:P.underlying t=some (.slice e)){m:Nat}{s:Sh}(i:qv P m t=some [s]){r:Reach}{b:Nat}{v:Value}(f:Value.okWide P w r b t v){d:DataW H}{j:List MemPlace}(h:DataW.Trod enc P w base spare held t v d j):
  ∃q,Fit s q/\bP w (λ_=>False) q v/\dK q<=B.bk d:=by
 obtain⟨a,n,c,rfl⟩:=WideShapes.okWide_slice g f;exact Pb B hR i rfl h
end
end
end Go.Dv
namespace Go.Proofs.YtcphhjkcgikdgaaGreatDoor
section
open Go
def su:List (List Char)->List Char
 |[]=>[]
 |[w]=>w
 |w::r=>w++Char.ofNat 32::su r
theorem Qq(r:List Char):wordsSigns (Char.ofNat 32::r)=[]::wordsSigns r:=rfl
theorem R0(c:Char)(h:c≠Char.ofNat 32)(r:List Char){w:List Char}{ws:List (List Char)}(hr:wordsSigns r=w::ws):wordsSigns (c::r)=(c::w)::ws:=by
 unfold wordsSigns;split
 ·rename_i e;cases e
 ·rename_i e;exact absurd (by injection e) h
 ·rename_i e;injection e with e1 e2;subst e1;subst e2;rw[hr]
theorem Dq:∀(w:List Char),(∀c∈w,c≠Char.ofNat 32)->∀(r:List Char) (ws:List (List Char)) (v:List Char),wordsSigns r=v::ws->wordsSigns (w++r)=(w++v)::ws
 |[],_,r,ws,v,h=>h
 |c::w,hc,r,ws,v,h=>R0 c (hc c (by simp)) _ (Dq w (fun d hd=>hc d (by simp[hd])) r ws v h)
theorem Il:∀(l:List (List Char)),l≠[]->(∀w∈l,∀c∈w,c≠Char.ofNat 32)->wordsSigns (su l)=l
 |[],h,_=>absurd rfl h
 |[w],_,hc=>by
  have:=Dq w (hc w (by simp)) [] [] [] rfl;simpa[su]using this
 |w::v::r,_,hc=>by
  have ih:=Il (v::r) (by simp) fun x hx=>hc x (List.mem_cons_of_mem _ hx)
  have:=Dq w (hc w (by simp)) (Char.ofNat 32::su (v::r)) (v::r) [] (by rw[Qq,ih]);simpa[su]using this
def words:List (List Char):=[[Char.ofNat 104,Char.ofNat 97,Char.ofNat 114,Char.ofNat 110,Char.ofNat 101,Char.ofNat 115,Char.ofNat 115],
 [Char.ofNat 99,Char.ofNat 97,Char.ofNat 56,Char.ofNat 97,Char.ofNat 51,Char.ofNat 100,Char.ofNat 57,Char.ofNat 102,Char.ofNat 54,Char.ofNat 97,Char.ofNat 99,Char.ofNat 57,Char.ofNat 97,Char.ofNat 97,Char.ofNat 51,Char.ofNat 57,Char.ofNat 102,Char.ofNat 54,Char.ofNat 55,Char.ofNat 56,Char.ofNat 50,Char.ofNat 50,Char.ofNat 57,Char.ofNat 50,Char.ofNat 48,Char.ofNat 52,Char.ofNat 53,Char.ofNat 48,Char.ofNat 99,Char.ofNat 52,Char.ofNat 51,Char.ofNat 55,Char.ofNat 49,Char.ofNat 55,Char.ofNat 98,Char.ofNat 100,Char.ofNat 100,Char.ofNat 50,Char.ofNat 56,Char.ofNat 48,Char.ofNat 55,Char.ofNat 52,Char.ofNat 100,Char.ofNat 53,Char.ofNat 55,Char.ofNat 100,Char.ofNat 101,Char.ofNat 51,Char.ofNat 55,Char.ofNat 50,Char.ofNat 50,Char.ofNat 98,Char.ofNat 48,Char.ofNat 53,Char.ofNat 97,Char.ofNat 99,Char.ofNat 48,Char.ofNat 51,Char.ofNat 53,Char.ofNat 98,Char.ofNat 100,Char.ofNat 54,Char.ofNat 48,Char.ofNat 52],
 [Char.ofNat 99,Char.ofNat 117,Char.ofNat 116],
 [Char.ofNat 97,Char.ofNat 116],
 [Char.ofNat 99,Char.ofNat 108,Char.ofNat 111,Char.ofNat 99,Char.ofNat 107,Char.ofNat 119,Char.ofNat 111,Char.ofNat 114,Char.ofNat 107,Char.ofNat 47,Char.ofNat 99,Char.ofNat 108,Char.ofNat 111,Char.ofNat 99,Char.ofNat 107,Char.ofNat 119,Char.ofNat 111,Char.ofNat 114,Char.ofNat 107,Char.ofNat 116,Char.ofNat 111,Char.ofNat 112,Char.ofNat 46,Char.ofNat 84,Char.ofNat 111,Char.ofNat 112,Char.ofNat 69,Char.ofNat 110,Char.ofNat 103,Char.ofNat 105,Char.ofNat 110,Char.ofNat 101,Char.ofNat 115],
 [Char.ofNat 99,Char.ofNat 108,Char.ofNat 111,Char.ofNat 99,Char.ofNat 107,Char.ofNat 119,Char.ofNat 111,Char.ofNat 114,Char.ofNat 107,Char.ofNat 47,Char.ofNat 99,Char.ofNat 108,Char.ofNat 111,Char.ofNat 99,Char.ofNat 107,Char.ofNat 119,Char.ofNat 111,Char.ofNat 114,Char.ofNat 107,Char.ofNat 116,Char.ofNat 111,Char.ofNat 112,Char.ofNat 46,Char.ofNat 84,Char.ofNat 111,Char.ofNat 112,Char.ofNat 80,Char.ofNat 108,Char.ofNat 97,Char.ofNat 110,Char.ofNat 115]]
theorem Ty:Tryz.prog.initOrder.toList=su words:=by
 have h:Tryz.prog.initOrder=String.ofList (su words):=by kernel_rfl
 rw[h];exact String.toList_ofList
theorem QF:(words.all fun w=>w.all fun c=>!(c==Char.ofNat 32))=true:=by kernel_rfl
theorem O2:wordsSigns Tryz.prog.initOrder.toList=words:=by
 rw[Ty];refine Il words (by unfold words;simp) fun w hw c hc=>?_
 have h:=QF;simp only[List.all_eq_true,Bool.not_eq_true',beq_eq_false_iff_ne]at h;exact h w hw c hc
theorem behind:behindMainWord (wordsSigns Tryz.prog.initOrder.toList)=words.drop 2:=by
 rw[O2];kernel_rfl
theorem aao:Tryz.prog.laysLater=false:=by kernel_rfl
theorem bears:Tryz.prog.bearsReflect=false:=by kernel_rfl
theorem strip:stripLifts liftWords (words.drop 2)=([],words.drop 2):=by kernel_rfl
theorem headLifts:Tryz.prog.headLifts=[]:=by unfold Program.headLifts;rw[behind,strip];kernel_rfl
theorem liftsFinal:Tryz.prog.liftsFinal=false:=by unfold Program.liftsFinal;rw[headLifts,behind];kernel_rfl
theorem make:Tryz.prog.make=some .cut:=by unfold Program.make;rw[behind];kernel_rfl
theorem aai:Tryz.prog.doorFits []=true:=by kernel_rfl
theorem Gi{P:Program}{l:List (List Char)}(hb:behindMainWord (wordsSigns P.initOrder.toList)=l)(hne:l.isEmpty=false)(hs:stripLifts liftWords l=([],l))(hcut:(l.head?==some "cut".toList)=true)
  (aaE:P.laysLater=false)(ZB:P.bearsReflect=false)(ZD:P.doorFits []=true):P.mayEnter=true:=by
 unfold Program.mayEnter;rw[hb];cases l with
 |nil=>cases hne
 |cons c rest=>simp only[hs,hcut,aaE,ZB,ZD];simp
theorem mayEnter:Tryz.prog.mayEnter=true:=Gi behind (by kernel_rfl) strip (by kernel_rfl) aao bears aai
theorem Qi{P:Program}{f:FuncId}{fn:Func}{s:ChangeSpec}{c:OpenClaim}(h1:P.mayEnter=true)(h2:P.liftsFinal=false)(h3:P.make=some .cut)(hl:c.lifted=false)(hm:c.make=.cut)
  (h:(c.wf (OpenSpec.ofChange s)&&laidOutB P&&mapsRowed P&&
   fn.params.all (P.readableRec ·)&&namedTie P c.named s.vars&&
   (c.stops==[])&&(P.stops==[])&&(c.knobs==[])&&(P.stopKnobs==[])&&
   (c.inPlace==P.inPlace f)&&(c.unfollowed==P.unfollowed f)&&(c.recurses==P.recurses f)&&(c.named==P.varsNamed f)&&
   (c.maps==(fn.params.toList++s.plain.varTypes P).any (P.mapsRec ·))&&(c.ifaces==(fn.params.toList++s.plain.varTypes P).any (P.ifacesRec ·))&&(c.mapsOut==P.mapsAmong fn.resultTypes.toList)&&
   (c.loops==(fn.params.toList++s.plain.varTypes P).any (P.loopsFrom ·))&&(c.wideKeys==(fn.params.toList++s.plain.varTypes P++fn.resultTypes.toList).any (P.wideKeysFrom ·))&&
   s.vars.all (P.varReadable ·)&&fn.resultTypes.all (fun t=>P.readableRec t&&decide (t<P.types.size))&&(c.ifacesOut==fn.resultTypes.toList.any (P.ifacesRec ·))&&(c.loopsOut==fn.resultTypes.toList.any (P.loopsFrom ·))&&(c.plainKeys==P.plainKeys)&&c.shortTexts.isNone&&P.stopsHeard&&(c.kinds==(if c.domain.isEmpty then[]else fn.params.toList.map fun t=>match P.underlying t with|some (.int k)=>some k|_=>none))&&(c.pinned==c.pinnedBy)&&
   (c.veiled==(fn.params.toList++s.plain.varTypes P++fn.resultTypes.toList).any (P.veiledRec ·))&&c.veiledFits P fn.params.toList (fn.params.toList++s.plain.varTypes P++fn.resultTypes.toList))=true):joinedFacts P f fn s c=true:=by
 simp only[Bool.and_eq_true]at h;obtain⟨⟨⟨⟨⟨⟨⟨⟨⟨⟨⟨⟨⟨⟨⟨⟨⟨⟨⟨⟨⟨⟨⟨⟨⟨⟨⟨⟨k1,k2⟩,k3⟩,k4⟩,k5⟩,k6⟩,k7⟩,k8⟩,k9⟩,k10⟩,k11⟩,k12⟩,k13⟩,k14⟩,k15⟩,k16⟩,k17⟩,k18⟩,k19⟩,k20⟩,k21⟩,k22⟩,k23⟩,k24⟩,k25⟩,k26⟩,k27⟩,k28⟩,k29⟩:=h;unfold joinedFacts;simp only[Bool.and_eq_true];exact⟨⟨⟨⟨⟨⟨⟨⟨⟨⟨⟨⟨⟨⟨⟨⟨⟨⟨⟨⟨⟨⟨⟨⟨⟨⟨⟨⟨⟨⟨⟨k1,k2⟩,k3⟩,k4⟩,k5⟩,k6⟩,k7⟩,k8⟩,k9⟩,k10⟩,k11⟩,k12⟩,k13⟩,k14⟩,k15⟩,k16⟩,k17⟩,k18⟩,k19⟩,k20⟩,k21⟩,k22⟩,k23⟩,k24⟩,k25⟩,h1⟩,by rw[hl,h2];rfl⟩,by rw[hm,h3];rfl⟩,k26⟩,k27⟩,k28⟩,k29⟩
end
end Go.Proofs.YtcphhjkcgikdgaaGreatDoor
