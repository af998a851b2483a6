/- Lemmas for the law of this claim. -/
import Derived.Test.YtcphhjkcgikdgaaGreatDoorP37
set_option linter.all false
set_option maxRecDepth 100000
set_option maxHeartbeats 4000000
namespace Go.Dv.Tryz
section
open Go Go.Dv
def Qd.u(q:Qd):Qu:=⟨q.1,false,q.2⟩
def gK{c d:Type}(f:c->Option d):∀(l:List c) (r:List d),l.length=r.length->(∀(i:Nat) (x:c) (y:d),l[i]?=some x->r[i]?=some y->f x=some y)->bP f l=some r
 |[],[],_,_=>rfl
 |[],_::_,h,_=>by simp at h
 |_::_,[],h,_=>by simp at h
 |a::l,b::r,h,H=>by
  have e:=H 0 a b rfl rfl;have g:=gK f l r (by simpa using h) λi x y j k=>H (i+1) x y (by simpa using j) (by simpa using k)
  simp only[bP,e,g]
def Cq{H:Heap}{i n d:Nat}{b:Bool}{c:Nat}{a:List (List PV)}(h:ag H i=some (.row b c a))(e:n=a.length):aS H (d+1) (.ref i n 0 n)=some (.slice false a):=by
 subst e;simp only[aS,h];simp
def KY{H:Heap}{o p k:Nat}{g:List Rq}{a:List Qd}{b:List Nat}(h:mS H o p k g a b){n:Nat}(q:n=a.length)(d:Nat):aS H (d+3) (.ref k n 0 n)=some (.slice false (dL (a.map Qd.u))):=by
 subst q;have l:=pT h.len;rw[aS,h.ql];simp only[l,Nat.zero_add,Nat.le_refl,and_self,cQ,List.drop_zero];rw[List.take_of_length_le ae,gK _ _ (dL (a.map Qd.u)) (by simp[dL,l]) ?_];intro j x y f m;have e:j<a.length:=by
  rcases bS j a.length with c|c
  .exact c
  .rw[List.getElem?_eq_none ae]at f;cases f
 have i:j<b.length:=by rw[h.len];exact e
 have r:=Bj (List.getElem?_eq_getElem e) (List.getElem?_eq_getElem i);rw[r]at f;cases f;have s:y=HN (Qd.u a[j]):=by
  simp[dL,e]at m;exact m.symm
 subst s;have t:=Cq (d:=d+1) (n:=a[j].2.length) (h.at_ j _ _ (List.getElem?_eq_getElem i) (List.getElem?_eq_getElem e)) (aE _).symm;simp only[bP,Cq (d:=d+1) (n:=a[j].2.length) (h.at_ j _ _ (List.getElem?_eq_getElem i) (List.getElem?_eq_getElem e)) (aE _).symm,HN,Qd.u];simp only[aS]
def iX(k:ByteArray)(r:Rq):List Qd->List Qd
 |[]=>[(k,[r])]
 |q::l=>if slt q.1 k then q::iX k r l else if q.1=k then(q.1,q.2++[r])::l else(k,[r])::q::l
def iW(l:List Qd):Prop:=l.Pairwise λx y=>slt x.1 y.1=true
def iW.u{l:List Qd}(h:iW l):OY (l.map Qd.u):=by
 unfold OY;rw[List.pairwise_map];exact h
def mS.push{H:Heap}{c d f:Nat}{g:List Rq}{i:List Qd}{a:List Nat}(h:mS H c d f g i a)(b:bq):mS ((c,b)::H) (c+1) d f g i a:=by
 have l:=h.AH;have m:=h.Aj;refine h.congr (λk j=>?_) ae (λk j=>?_)
 .rw[aw,ak];rintro rfl;rcases j with e|e|e
  .omega
  .omega
  .exact absurd (h.lt _ e) ae
 .rw[aw,ak ae];exact h.free k ae
def TF(a:List (List DV))(k:ByteArray)(b:Bool)(p:Nat)(m:p<=a.length)(n:a.length<=8388608)(H:Heap)(id c:Nat)(d:ag H id=some (.aV false 2 a)):
  BS tb 77 [.ref id a.length 0 a.length,.p (.int .i64 p),.p (.slice b [[.str k,.slice true []]])] H c (.ref id (a.length+1) 0 (a.length+1)) (aC H id (.aV false 2 (a.take p++[.p (.str k),.p (.slice true [])]::a.drop p))) c:=by
 refine⟨0,?_⟩;have e:tb.A 77=none:=rfl;have f:tb.X=outside:=rfl;have g:(a.length+1)*40<=an:=by simp only[an];omega
 have h:a.length+1<=an:=by simp only[an];omega
 have o:(0:Int)<=p:=ae;have i:(p:Int)<=a.length:=ae;have j:bT 2 [[PV.str k,PV.slice true []]]=true:=rfl;have l:gb a (j9 [[PV.str k,PV.slice true []]]) p=a.take p++[.p (.str k),.p (.slice true [])]::a.drop p:=by simp[gb,j9]
 simp only[dQ,e,f];simp[outside,aK.or,oz,oK,tZ,tZ,si,EA,d,g,h,i,j,l]
def JH{e:List Qd}{b:List Nat}{j:Nat}{q:Qd}{i:Nat}(d:b[j]?=some i):(cZ e b).set j [.p (.str q.1),.ref i q.2.length 0 q.2.length]=cZ (e.set j q) b:=by
 unfold cZ;apply List.ext_getElem?;intro n;simp only[List.getElem?_set,List.getElem?_zipWith];by_cases c:j=n
 .subst c;rw[aq rfl];cases f:b[j]? with
  |none=>rw[f]at d;cases d
  |some a=>
   rw[d]at f;cases f;simp only[aq rfl];have h:j<b.length:=by
    rcases bS j b.length with c|c
    .exact c
    .rw[List.getElem?_eq_none c]at d;cases d
   by_cases g:j<e.length
   .rw[aq (by simp;omega),aq g];simp only[cQ]
   .rw[ak (by simp;omega),ak g];simp only[cQ]
 .simp[c]
def JN{b:List Qd}{a:List Nat}{p:Nat}(c:a.length=b.length)(q:Qd)(i:Nat):(cZ b a).take p++[.p (.str q.1),.ref i q.2.length 0 q.2.length]::(cZ b a).drop p=cZ (b.take p++q::b.drop p) (a.take p++i::a.drop p):=by
 unfold cZ;rw[List.zipWith_append (by simp[c]),List.take_zipWith,List.drop_zipWith];rfl
def OA(k:ByteArray)(r:Rq):∀(l:List Qd) (p:Nat),Ti (l.map Qd.u) k p->
  (∃(h:p<l.length),l[p].1=k/\tx (l.map Qd.u) k p=true/\iX k r l=l.set p (k,l[p].2++[r]))\/(tx (l.map Qd.u) k p=false/\p<=l.length/\iX k r l=l.take p++(k,[r])::l.drop p)
 |[],p,h=>.inr (by
  have:p=0:=by simpa using h.1
  subst this;exact⟨rfl,Nat.le_refl _,rfl⟩)
 |q::l,0,h=>by
  have e:=h.2.2 0 az (Nat.le_refl _);simp only[List.map_cons,List.getElem_cons_zero,Qd.u]at e;by_cases c:q.1=k
  .refine .inl ⟨az,by simpa using c,by simp[tx,Qd.u,c],?_⟩;rw[iX,e,ak az,aq c,List.set_cons_zero,List.getElem_cons_zero,c]
  .refine .inr ⟨by simp[tx,Qd.u,c],az,?_⟩;simp[iX,e,c]
 |q::l,p+1,h=>by
  have e:=h.2.1 0 az ae;simp only[List.map_cons,List.getElem_cons_zero,Qd.u]at e;have i:Ti (l.map Qd.u) k p:=by
   refine⟨by simpa using h.1,λx f g=>?_,λx f g=>?_⟩
   .have:=h.2.1 (x+1) (by simpa using f) ae;simpa using this
   .have:=h.2.2 (x+1) (by simpa using f) ae;simpa using this
  rcases OA k r l p i with⟨a,b,c,d⟩|⟨a,b,c⟩
  .exact .inl ⟨by simpa using a,by simpa using b,by simpa[tx]using c,by simp[iX,e,d]⟩
  .exact .inr ⟨by simpa[tx]using a,by simpa using b,by simp[iX,e,c]⟩
def Iw{H:Heap}{a i c k:Nat}{X Y Z:bq}(b:k≠a)(d:k≠i)(e:k≠c):ag ((a,X)::aC (aC H i Y) c Z) k=ag H k:=by
 rw[aw,ak (dz b),aA,ak (dz e),aA,ak (dz d)]
def aaP{H:Heap}{a i c:Nat}{X Y Z B:bq}(h:ag H c=some B)(b:c≠a)(d:c≠i):ag ((a,X)::aC (aC H i Y) c Z) c=some Z:=by
 rw[aw,ak (dz b),aA,aq rfl,aA,ak (dz d),h];rfl
def aag{H:Heap}{a i c:Nat}{X Y Z B:bq}(h:ag H i=some B)(b:i≠a)(d:i≠c):ag ((a,X)::aC (aC H i Y) c Z) i=some Y:=by
 rw[aw,ak (dz b),aA,ak (dz d),aA,aq rfl,h];rfl
def OU{H:Heap}{a b q v k:Nat}{X Y Z V W:bq}(d:k≠a)(e:k≠b)(c:k≠q)(f:k≠v):ag ((a,X)::(b,Y)::aC (aC (aC H q Z) v V) q W) k=ag H k:=by
 rw[aw,ak (dz d),aw,ak (dz e),aA,ak (dz c),aA,ak (dz f),aA,ak (dz c)]
def aaG{H:Heap}{a b q v:Nat}{X Y Z V W B:bq}(h:ag H q=some B)(c:q≠a)(d:q≠b)(e:q≠v):ag ((a,X)::(b,Y)::aC (aC (aC H q Z) v V) q W) q=some W:=by
 rw[aw,ak (dz c),aw,ak (dz d),aA,aq rfl,aA,ak (dz e),aA,aq rfl,h];rfl
def aaO{H:Heap}{a b q v:Nat}{X Y Z V W B:bq}(h:ag H v=some B)(d:v≠a)(e:v≠b)(c:v≠q):ag ((a,X)::(b,Y)::aC (aC (aC H q Z) v V) q W) v=some V:=by
 rw[aw,ak (dz d),aw,ak (dz e),aA,ak (dz c),aA,aq rfl,aA,ak (dz c),h];rfl
def Jy{l:List Nat}(h:l.Nodup){i j k:Nat}(a:l[i]?=some k)(b:l[j]?=some k):i=j:=by
 obtain⟨e,c⟩:=List.getElem?_eq_some_iff.1 a;obtain⟨f,d⟩:=List.getElem?_eq_some_iff.1 b;exact(List.getElem_inj h).1 (c.trans d.symm)
def Xa(o:ByteArray)(x:Int)(w:Bool){H:Heap}{t I u y:Nat}{g:List Rq}{n:List Qd}{m:List Nat}(r:mS H t I u g n m)(hA:iW n)(hl:n.length<=6291456)(hr:∀q∈n,q.2.length<=6291456)
  (O:ag H y=some (.var false [.ref I g.length 0 g.length,.ref u n.length 0 n.length]))(Q:y∉m)(n2:y≠I)(U:y≠u)(n4:y<t):
  ∃(D:List Nat) (S:Heap) (J:Nat),BS tb 44 [.ptr y 0,.p (.str o),.agg [.p (.int .i64 x),.p (.bool w)]] H t (.tuple []) S J/\
   mS S J I u g (iX o (x,w) n) D/\ag S y=some (.var false [.ref I g.length 0 g.length,.ref u (iX o (x,w) n).length 0 (iX o (x,w) n).length])/\y∉D/\t<=J/\
   (∀k,k<t->k≠y->k≠u->k∉m->ag S k=ag H k)/\(∀i∈D,i∈m\/t<=i):=by
 obtain⟨p,hp,hs⟩:=Lg (n.map Qd.u) o false (by simp;omega) hA.u;have f0:=r.free t (Nat.le_refl _);have b1:=cj (show t≠y by omega);have b2:=cj (show t≠u by have:=r.Aj;omega);have wk:W tb Sd.body {env:=ai 0 [.ptr y 0,.p (.str o),.agg [.p (.int .i64 x),.p (.bool w)]],heap:=H,next:=t,marks:=[t]}
   (eX Sd.results λv s=>∃q:List Nat×Heap×Nat,v=.tuple []/\s.heap=q.2.1/\s.next=q.2.2/\(mS q.2.1 q.2.2 I u g (iX o (x,w) n) q.1/\ag q.2.1 y=some (.var false [.ref I g.length 0 g.length,.ref u (iX o (x,w) n).length 0 (iX o (x,w) n).length])/\y∉q.1/\t<=q.2.2/\
   (∀k,k<t->k≠y->k≠u->k∉m->ag q.2.1 k=ag H k)/\(∀i∈q.1,i∈m\/t<=i))):=by
  unfold Sd;dsimp only[ai]
  (try simp(disch:=omega) only[go_sem,seval,reduceCtorEq,f0,O,b1,b2])
  have V:=r.push (.var false [.p (.int .i64 x),.p (.bool w)]);refine Il (l:=[.ref u n.length 0 n.length,.p (.str o),.func 76 []]) (ps:=[.slice false (dL (n.map Qd.u)),.str o,.func 76 []]) rfl ?_ hs rfl rfl ?_
  .have e:aS ((t,.var false [.p (.int .i64 x),.p (.bool w)])::H) dep (.ref u n.length 0 n.length)=_:=KY V rfl 2;simp only[bP,e];rfl
  have E:=pT r.len;rcases OA o (x,w) n p hp with⟨z,F,hf,P⟩|⟨hf,z,P⟩
  .rw[hf];have G:p<m.length:=by rw[r.len];exact z
   have Y:=Bj (List.getElem?_eq_getElem z) (List.getElem?_eq_getElem G);have g2:=r.at_ p _ _ (List.getElem?_eq_getElem G) (List.getElem?_eq_getElem z);have A:m[p]∈m:=List.getElem_mem G;have b3:=cj (show t≠m[p] by have:=r.lt _ A;omega);have e1:m[p]≠y:=λe=>Q (e▸A)
   have e2:m[p]≠u:=λe=>r.nq (e▸A)
   have u1:∀X,ag (aC H m[p] X) y=some (.var false [.ref I g.length 0 g.length,.ref u n.length 0 n.length]):=λX=>by rw[aA,ak e1,O]
   have u2:∀X,ag (aC H m[p] X) u=some (.aV false 2 (cZ n m)):=λX=>by rw[aA,ak e2,r.ql]
   have i1:(0:Int)<=p:=ae;have i2:(p:Int)<n.length:=ae;have xr:=hr _ (List.getElem_mem z);have hz:bT 2 [[PV.int IntKind.i64 x,PV.bool w]]=true:=rfl;have m1:(n[p].2.length+1)*16<=140737488355328:=ae;have m2:n[p].2.length+1<=140737488355328:=ae
   (try simp(disch:=omega) only[go_sem,seval,reduceCtorEq,f0,O,b1,b2,b3,E,r.ql,Y,g2,hz,u1,u2,i1,i2,m1,m2,z,an,aE,List.set_cons_succ,List.set_cons_zero])
   have L:∀i,i∈m->I≠i:=λi C e=>r.ng (by rw[e];exact C)
   have K:∀i,i∈m->i≠u:=λi C e=>r.nq (by rw[<-e];exact C)
   have M:∀i,i∈m->i≠y:=λi C e=>Q (by rw[<-e];exact C)
   have Z:=r.AH;have x0:=r.Aj;have B:=r.lt;have el:(iX o (x,w) n).length=n.length:=by rw[P,List.length_set]
   have eS:(cZ n m).set p [DV.p (PV.str n[p].fst),DV.ref m[p] (n[p].snd.length+1) 0 (n[p].snd.length+1)]=cZ (iX o (x,w) n) m:=by
    rw[P,<-JH (q:=(o,n[p].2++[(x,w)])) (List.getElem?_eq_getElem G),F];simp
   rw[eS];refine⟨by simp[e1],(m,_,t+1),rfl,rfl,⟨?_,?_,by rw[el];exact r.len,?_,r.nd,r.ng,r.nq,r.gq,by simp only;omega,by simp only;omega,λk F=>by have:=B k F;simp only;omega,λk F=>?_⟩,?_,Q,by simp only;omega,λk k1 k2 k3 k4=>?_,λk F=>.inl F⟩
   .rw[Iw ae (L _ A) r.gq,r.gl]
   .exact aaP r.ql ae (dz e2)
   .intro j i q a b;simp only at a;rw[P,List.getElem?_set]at b;by_cases c:p=j
    .subst c;rw[aq rfl,aq z]at b;cases b;rw[List.getElem?_eq_getElem G]at a;cases a;rw[aag g2 (by have:=B _ A;omega) e2,<-wg];rfl
    .rw[ak c]at b;have C:i∈m:=List.mem_of_getElem? a;have:=B i C;rw[Iw ae ?_ (K i C),r.at_ j i q a b];intro e;exact c (Jy r.nd (List.getElem?_eq_getElem G) (e▸a))
   .simp only at F;have:=B _ A;rw[Iw ae ae ae];exact r.free k ae
   .rw[Iw ae (dz e1) U,O,el]
   .rw[Iw ae (λe=>k4 (by rw[e];exact A)) k3]
  .rw[hf];have Y:=TF (cZ n m) o true p ae ae ((t,.var false [.p (.int .i64 x),.p (.bool w)])::H) u (t+1) V.ql;rw[E]at Y;have x2:(List.take p (cZ n m)++[DV.p (PV.str o),DV.p (PV.slice true [])]::List.drop p (cZ n m)).length=n.length+1:=by simp[E];omega
   have x3:(List.take p (cZ n m)++[DV.p (PV.str o),DV.p (PV.slice true [])]::List.drop p (cZ n m))[p]?=some [DV.p (PV.str o),DV.p (PV.slice true [])]:=by
    rw[List.getElem?_append_right (by simp;omega)];simp[E,Aw z]
   have x4:(List.take p (cZ n m)++[DV.p (PV.str o),DV.p (PV.slice true [])]::List.drop p (cZ n m)).set p [.p (.str o),.ref (t+1) 1 0 1]=cZ (iX o (x,w) n) (m.take p++(t+1)::m.drop p):=by
    rw[P,<-JN r.len,List.set_append_right _ _ (by simp;omega)];simp[E,Aw z]
   generalize(List.take p (cZ n m)++[DV.p (PV.str o),DV.p (PV.slice true [])]::List.drop p (cZ n m))=R at Y x2 x3 x4;have u1:ag (aC H u (.aV false 2 R)) y=some (.var false [.ref I g.length 0 g.length,.ref u n.length 0 n.length]):=by rw[aA,ak (dz U),O]
   have u2:∀X,ag (aC (aC H u (.aV false 2 R)) y X) y=some X:=λX=>by rw[aA,aq rfl,u1];rfl
   have u3:∀X,ag (aC (aC H u (.aV false 2 R)) y X) u=some (.aV false 2 R):=λX=>by rw[aA,ak U,aA,aq rfl,r.ql];rfl
   have x0:=r.Aj;have f1:∀X,ag (aC (aC H u (.aV false 2 R)) y X) (t+1)=none:=λX=>by rw[aA,ak ae,aA,ak ae];exact r.free _ ae
   have b3:=cj (show t+1≠y by omega);have b4:=cj (show t+1≠u by omega);have b5:=cj (show t≠t+1 by omega);have hz:bT 2 [[PV.int IntKind.i64 x,PV.bool w]]=true:=rfl;have i1:(0:Int)<=p:=ae;have i2:(p:Int)<(n.length+1:Nat):=ae;have i3:p<n.length+1:=ae;refine gR (Cj f0<|Cj O<|Cj b1<|Cj b2<|Cj E<|Cj r.ql<|Cj u1<|Cj u2<|Cj u3<|Cj x2<|Cj x3<|Cj f1<|Cj hz<|Cj b3<|Cj b4<|Cj b5<|Cj i1<|Cj i2<|Cj i3<|Cj Q9<|eW) trivial Y (k1 ?_);have L:∀i,i∈m->I≠i:=λi C e=>r.ng (by rw[e];exact C)
   have K:∀i,i∈m->i≠u:=λi C e=>r.nq (by rw[<-e];exact C)
   have M:∀i,i∈m->i≠y:=λi C e=>Q (by rw[<-e];exact C)
   have Z:=r.AH;have B:=r.lt;have el:(iX o (x,w) n).length=n.length+1:=by rw[P];simp;omega
   have x5:¬t+1∈m:=λh=>by have:=B _ h;omega
   rw[x4];refine⟨by simp[show t+1≠y by omega],(m.take p++(t+1)::m.drop p,_,t+1+1),rfl,rfl,⟨?_,?_,by rw[el];simp[r.len];omega,?_,?_,?_,?_,r.gq,by simp only;omega,by simp only;omega,λk F=>?_,λk F=>?_⟩,?_,?_,by simp only;omega,λk k1 k2 k3 k4=>?_,λk F=>?_⟩
   .rw[OU ae ae r.gq (dz n2),r.gl]
   .exact aaG r.ql ae ae (dz U)
   .intro j i q a b;simp only at a;rw[P]at b;have x6:p<=m.length:=by rw[r.len];exact z
    have N:∀(j':Nat),m[j']?=some i->n[j']?=some q->ag ((t+1,bq.row false 2 [[PV.int IntKind.i64 x,PV.bool w]])::(t,bq.var false [DV.p (PV.int IntKind.i64 x),DV.p (PV.bool w)])::aC (aC (aC H u (bq.aV false 2 R)) y (bq.var false [DV.ref I g.length 0 g.length,DV.ref u (n.length+1) 0 (n.length+1)])) u (bq.aV false 2 (cZ (iX o (x,w) n) (m.take p++(t+1)::m.drop p)))) i=some (.row false 2 (bM q.2)):=λj' a b=>by
     have C:i∈m:=List.mem_of_getElem? a;have:=B i C;rw[OU ae ae (K i C) (M i C),r.at_ j' i q a b]
    rcases Dt j p with c|c|c
    .rw[List.getElem?_append_left (by simp;omega),List.getElem?_take_of_lt c]at a b;exact N j a b
    .subst c;rw[List.getElem?_append_right (by simp;omega)]at a b;simp[Aw z,Aw x6]at a b;subst a;subst b;rw[aw,aq rfl];rfl
    .rw[List.getElem?_append_right (by simp;omega)]at a b;obtain⟨d,rfl⟩:∃d,j=p+1+d:=⟨j-p-1,ae⟩;have ea:p+1+d-(m.take p).length=d+1:=by simp;omega
     have eb:p+1+d-(n.take p).length=d+1:=by simp;omega
     rw[ea,List.getElem?_cons_succ,List.getElem?_drop]at a;rw[eb,List.getElem?_cons_succ,List.getElem?_drop]at b;exact N (p+d) a b
   .have h:(m.take p++m.drop p).Nodup:=by rw[List.take_append_drop];exact r.nd
    rw[List.nodup_append]at h⊢;refine⟨h.1,?_,λa ha b hb=>?_⟩
    .rw[List.nodup_cons];exact⟨λe=>x5 (List.mem_of_mem_drop e),h.2.1⟩
    .rcases List.mem_cons.1 hb with e|e
     .rintro rfl;exact x5 (e▸List.mem_of_mem_take ha)
     .exact h.2.2 a ha b e
   .intro e;rcases List.mem_append.1 e with e|e
    .exact r.ng (List.mem_of_mem_take e)
    .rcases List.mem_cons.1 e with e|e
     .omega
     .exact r.ng (List.mem_of_mem_drop e)
   .intro e;rcases List.mem_append.1 e with e|e
    .exact r.nq (List.mem_of_mem_take e)
    .rcases List.mem_cons.1 e with e|e
     .omega
     .exact r.nq (List.mem_of_mem_drop e)
   .simp only;rcases List.mem_append.1 F with e|e
    .have:=B _ (List.mem_of_mem_take e);omega
    .rcases List.mem_cons.1 e with e|e
     .omega
     .have:=B _ (List.mem_of_mem_drop e);omega
   .simp only at F;rw[OU ae ae ae ae];exact r.free k ae
   .rw[aaO O ae ae U,el]
   .intro e;rcases List.mem_append.1 e with e|e
    .exact Q (List.mem_of_mem_take e)
    .rcases List.mem_cons.1 e with e|e
     .omega
     .exact Q (List.mem_of_mem_drop e)
   .rw[OU ae ae k3 k2]
   .rcases List.mem_append.1 F with e|e
    .exact .inl (List.mem_of_mem_take e)
    .rcases List.mem_cons.1 e with e|e
     .exact .inr ae
     .exact .inl (List.mem_of_mem_drop e)
 obtain⟨⟨D,S,J⟩,h,hh⟩:=G9 (T:=tb) (f:=44) (af:=Sd) (ι:=List Nat×Heap×Nat) rfl rfl wk;exact⟨D,S,J,h,hh⟩
end
section
open Go Go.Dv
def PK(l:List ByteArray)(k:ByteArray)(b:Bool)(s:l.length<=1048576)(K:Ex->St->Prop)(h:(∀j,j<l.length->(λj=>!decide (l.getD j E=k)) j=true)->K (.exit 0) ⟨[],[],0,[0]⟩)
  (n:∀i,i<l.length->(λj=>!decide (l.getD j E=k)) i=false->∀e,ag e.env 4=some (.p (.int .i64 i))->K .ret e):∀(m i:Nat),i+m=l.length->(∀j,j<i->(λj=>!decide (l.getD j E=k)) j=true)->
  W tb py ⟨[(0,.p (.slice b (aF l))),(1,.p (.str k)),(7,.p (.int .i64 l.length)),(8,.p (.int .i64 i))],[],0,[0]⟩ (LK tb (.ghost .lower py) K):=by
 intro m;induction m with
 |zero=>
  intro i o a;have c:¬(i:Int)<l.length:=ae;refine aH py.eq_1 ?_;refine gN (bA c @au) (k1 ?_);exact h (λj t=>a j ae)
 |succ m p=>
  intro i o a;have c:(i:Int)<l.length:=ae;have d:i<l.length:=ae;have q:(0:Int)<=i:=ae;have r:=dN l i d;have f:decide (l.getD i E=k)=decide (k=l[i]):=by rw[bW l i d];exact wD.2 eq_comm
  refine aH py.eq_1 ?_;refine hN (fW c q @au r) (k2 ?_ ?_)<;>(repeat with_reducible intro g)
  all_goals first
   |(exfalso;omega)
   |exact n i d (by(try dsimp only);rw[f];simp[g]) _ rfl
   |(refine fJ (aU ?_)
     (try simp(disch:=omega) only[go_sem,seval,reduceCtorEq,au])
     exact p (i+1) ae (nC a (by(try dsimp only);rw[f];simp[g])))
def Nn(l:List ByteArray)(k:ByteArray)(b:Bool)(e:l.length<=1048576):∃n:Int,PS tb 78 [.slice b (aF l),.str k] (.int .i64 n)/\decide (0<=n)=hasB l k:=by
 have w:W tb Hq.body {env:=ai 0 ([PV.slice b (aF l),PV.str k].map aI),heap:=[],next:=0,marks:=[0]} (eX Hq.results λv s=>∃n:{n:Int//decide (0<=n)=hasB l k},aS s.heap dep v=some (.int .i64 n.1)):=by
  unfold Hq;dsimp only[List.map,aI,ai]
  (try simp(disch:=omega) only[go_sem,seval,reduceCtorEq,au])
  refine aU ?_;refine ew ?_;refine PK l k b e _ ?_ ?_ l.length 0 ae (λj h=>ae)
  .intro g;refine ew ?_;have:k∉l:=by
    intro m;obtain⟨i,a,rfl⟩:=List.mem_iff_getElem.1 m;have:=g i a;dsimp only at this;rw[bW l i a]at this;simp at this
   exact⟨⟨-1,by rw[iY.2 this];rfl⟩,rfl⟩
  .intro i a c p d
   (try simp(disch:=omega) only[go_sem,seval,reduceCtorEq,d])
   have:k∈l:=by
    dsimp only at c;rw[bW l i a]at c;simp at c;rw[<-c];exact List.getElem_mem a
   exact⟨⟨i,by rw[ej.2 this];simp⟩,rfl⟩
 obtain⟨⟨n,o⟩,h⟩:=jg (T:=tb) (f:=78) (af:=Hq) rfl rfl w;exact⟨n,h,o⟩
def EM(l:List ByteArray)(k:ByteArray)(b:Bool)(a:l.length<=1048576):PS tb 45 [.slice b (aF l),.str k] (.bool (hasB l k)):=by
 obtain⟨n,c,d⟩:=Nn l k b a;refine bD (af:=UF) rfl rfl ?_;unfold UF;dsimp only[List.map,aI,ai];exact gP d c k0
structure RI(H:Heap)(nx ga qa va:Nat)(g:List Rq)(qs:List Qd)(ids:List Nat)(B1 B2:bq):Prop where
 T:mS H nx ga qa g qs ids
 A:iW qs
 v:ag H va=some (.var false [.ref ga g.length 0 g.length,.ref qa qs.length 0 qs.length])
 n1:va∉ids
 n2:va≠ga
 n3:va≠qa
 n4:va<nx
 lo:2<ga/\2<qa/\2<va/\∀i∈ids,2<i
 b1:ag H 1=some B1
 b2:ag H 2=some B2
def Bd(n:Nat)(a:List Qd):Prop:=a.length<=n/\∀q∈a,q.2.length<=n
def xP{k:ByteArray}{r:Rq}:∀{f:List Qd} {q:Qd},q∈iX k r f->q∈f\/q=(k,[r])\/∃p∈f,p.1=k/\q=(p.1,p.2++[r])
 |[],q,h=>.inr (.inl (by simpa[iX]using h))
 |p::l,q,h=>by
  unfold iX at h;split at h
  .rcases List.mem_cons.1 h with e|e
   .exact .inl (by simp[e])
   .rcases xP e with a|a|⟨b,c,d⟩
    .exact .inl (by simp[a])
    .exact .inr (.inl a)
    .exact .inr (.inr ⟨b,by simp[c],d⟩)
  .split at h
   .rename_i g;rcases List.mem_cons.1 h with e|e
    .exact .inr (.inr ⟨p,az,g,e⟩)
    .exact .inl (by simp[e])
   .rcases List.mem_cons.1 h with e|e
    .exact .inr (.inl e)
    .exact .inl e
def J7(k:ByteArray)(r:Rq):∀a:List Qd,(iX k r a).length<=a.length+1
 |[]=>by simp[iX]
 |p::l=>by
  have:=J7 k r l;unfold iX;split
  .simp;omega
  .split<;>simp
def Bd.iX{n:Nat}{f:List Qd}(h:Bd n f)(k:ByteArray)(r:Rq):Bd (n+1) (iX k r f):=by
 refine⟨by have:=J7 k r f;have:=h.1;omega,λq g=>?_⟩;rcases xP g with a|a|⟨b,c,d,e⟩
 .have:=h.2 q a;omega
 .rw[a];simp
 .have:=h.2 b c;rw[e];simp;omega
def iW.iX{i:List Qd}(h:iW i)(k:ByteArray)(r:Rq):iW (iX k r i):=by
 unfold iW at h⊢;induction i with
 |nil=>simp[Go.Dv.Tryz.iX]
 |cons p l n=>
  rw[List.pairwise_cons]at h;unfold Go.Dv.Tryz.iX;split
  .rename_i j;rw[List.pairwise_cons];refine⟨λq f=>?_,n h.2⟩;rcases xP f with a|a|⟨b,c,d,e⟩
   .exact h.1 q a
   .rw[a];exact j
   .rw[e];exact h.1 b c
  .rename_i j;split
   .rw[List.pairwise_cons];exact⟨λq f=>h.1 q f,h.2⟩
   .rename_i m;have g:slt k p.1=true:=by
     cases c:slt k p.1 with
     |true=>rfl
     |false=>exact absurd (kq (by simpa using j) c) m
    rw[List.pairwise_cons];refine⟨λq f=>?_,List.pairwise_cons.2 h⟩;rcases List.mem_cons.1 f with e|e
    .rw[e];exact g
    .exact gM g (h.1 q e)
def RI.add{H:Heap}{u v y p:Nat}{g:List Rq}{r:List Qd}{s:List Nat}{z A:bq}(h:RI H u v y p g r s z A){n:Nat}(B:Bd n r)(J:n<=6291456)(m:ByteArray)(x:Int)(w:Bool):
  ∃(k:List Nat) (o:Heap) (l:Nat),BS tb 44 [.ptr p 0,.p (.str m),.agg [.p (.int .i64 x),.p (.bool w)]] H u (.tuple []) o l/\RI o l v y p g (iX m (x,w) r) k z A:=by
 obtain⟨k,o,l,a,b,c,d,e,f,i⟩:=Xa m x w h.T h.A (by have:=B.1;omega) (λq D=>by have:=B.2 q D;omega) h.v h.n1 h.n2 h.n3 h.n4;obtain⟨E,F,G,t⟩:=h.lo;have C:=h.T.AH;refine⟨k,o,l,a,b,h.A.iX _ _,c,d,h.n2,h.n3,by have:=h.n4;omega,⟨E,F,G,λj I=>?_⟩,?_,?_⟩
 .rcases i j I with e|e
  .exact t j e
  .omega
 .rw[f 1 ae ae ae (λe=>by have:=t 1 e;omega)];exact h.b1
 .rw[f 2 ae ae ae (λe=>by have:=t 2 e;omega)];exact h.b2
def fk(a:List ByteArray)(r:Rq)(b:List Qd):List Qd:=a.foldl (λq k=>iX k r q) b
def N6(l:List ByteArray)(w:Bool)(G:l.length<=1048576)(x:Int)(r s j:Nat)(g:List Rq)(t u:bq)(F:List Qd)(K:Ex->St->Prop)
  (y:∀(H:Heap) (b:Nat) (a:List Nat),RI H b r s j g F a t u->Bd (3145728+l.length) F->K (.exit 1) ⟨[(1,.p (.int .i64 x)),(5,.ptr 1 0),(6,.ptr 2 0),(8,.ptr j 0)],H,b,[0]⟩):
  ∀(m i:Nat),i+m=l.length->∀(H:Heap) (b:Nat) (a:List Nat) (c:List Qd),RI H b r s j g c a t u->Bd (3145728+i) c->fk (l.drop i) (x,true) c=F->
  W tb zD ⟨[(1,.p (.int .i64 x)),(5,.ptr 1 0),(6,.ptr 2 0),(8,.ptr j 0),(65,.p (.slice w (aF l))),(66,.p (.int .i64 l.length)),(67,.p (.int .i64 i))],H,b,[0]⟩ (LK tb (.ghost (.free [3]) zD) K):=by
 intro m;induction m with
 |zero=>
  rintro i z H b a c k d f;have n:¬(i:Int)<l.length:=ae;have e:i=l.length:=ae;rw[List.drop_eq_nil_of_le ae]at f;have o:c=F:=f;subst o;rw[e]at d;refine aH zD.eq_1 ?_;refine gN n (k1 ?_);exact y H b a k d
 |succ m A=>
  rintro i z H b a c k d f;have n:(i:Int)<l.length:=ae;have v:i<l.length:=ae;have B:(0:Int)<=i:=ae;have C:=dN l i v;obtain⟨h,D,p,E,q⟩:=k.add d ae l[i] x true;rw[List.drop_eq_getElem_cons v]at f;refine aH zD.eq_1 ?_;refine gR (dS n C B) trivial E (k1 ?_);refine fJ (aU ?_);refine ew ?_;exact A (i+1) ae D p h _ q (d.iX _ _) f
def other(w:List ByteArray)(r:List ByteArray):List ByteArray:=r.filter λk=>!hasB w k
def N5(l:List ByteArray)(M:Bool)(T:l.length<=1048576)(w:List ByteArray)(r z:Bool)(N:w.length<=1048576)(A:DV)(x:Int)(s:Nat)(U:s<=4194304)(B C n:Nat)(g:List Rq)(D:Bool)(E:bq)(F:List Qd)(K:Ex->St->Prop)
  (O:∀(H:Heap) (c:Nat) (a:List Nat),RI H c B C n g F a (.var D [.p (.bool z),A,.p (.slice r (aF w))]) E->K (.exit 3) ⟨[(6,.ptr 2 0),(8,.ptr n 0)],jJ H 1,c,[0]⟩):
  ∀(m i:Nat),i+m=l.length->∀(H:Heap) (c:Nat) (a:List Nat) (d:List Qd),RI H c B C n g d a (.var D [.p (.bool z),A,.p (.slice r (aF w))]) E->Bd (s+i) d->fk (other w (l.drop i)) (x,false) d=F->
  W tb yI ⟨[(1,.p (.int .i64 x)),(5,.ptr 1 0),(6,.ptr 2 0),(8,.ptr n 0),(77,.p (.slice M (aF l))),(78,.p (.int .i64 l.length)),(79,.p (.int .i64 i))],H,c,[0]⟩ (LK tb yI K):=by
 intro m;induction m with
 |zero=>
  rintro i P H c a d e h f;have o:¬(i:Int)<l.length:=ae;rw[List.drop_eq_nil_of_le ae]at f;have t:d=F:=f;subst t;refine aH yI.eq_1 ?_;refine gN (bA o e.b1) (k1 ?_);exact O H c a e
 |succ m G=>
  rintro i P H c a d e h f;have o:(i:Int)<l.length:=ae;have I:i<l.length:=ae;have J:(0:Int)<=i:=ae;have L:=dN l i I;have j:=e.b1;have b:=EM w l[i] r N;rw[List.drop_eq_getElem_cons I]at f;refine aH yI.eq_1 ?_;cases p:hasB w l[i]with
  |true=>
   rw[p]at b;have u:Bd (s+(i+1)) d:=⟨by have:=h.1;omega,λq Q=>by have:=h.2 q Q;omega⟩;refine gP (fW o L J j) b (k1 ?_);refine fJ (aU ?_);refine ew ?_;exact G (i+1) ae H c a _ e u (by rw[<-f];unfold other;rw[List.filter_cons_of_neg (by simp[p])])
  |false=>
   rw[p]at b;obtain⟨k,R,v,S,y⟩:=e.add h ae l[i] x false;refine gR (fW o L J j) b S (k1 ?_);refine fJ (aU ?_);refine ew ?_;exact G (i+1) ae R v k _ y (h.iX _ _) (by rw[<-f];unfold other;rw[List.filter_cons_of_pos (by simp[p])];rfl)
end
end Go.Dv.Tryz
