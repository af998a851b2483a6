/- Lemmas for the law of this claim. -/
import Derived.Test.YtcphhjkcgikdgaaGreatDoorP40
import Derived.Test.YtcphhjkcgikdgaaGreatDoorP36
import Derived.Test.YtcphhjkcgikdgaaGreatDoorP35
set_option linter.all false
set_option maxRecDepth 100000
set_option maxHeartbeats 8000000
namespace Go.Dv.Tryz
section
open Go Go.Dv
def Lv(l:List Rq):Prop:=(∀r∈l,0<=r.1)/\l.Pairwise λa b=>a.1<b.1
def r8{l:List Rq}:qN l=true↔Lv l:=by
 constructor
 .intro h;refine⟨λr b=>?_,?_⟩
  .obtain⟨i,a,rfl⟩:=List.getElem_of_mem b;have:=kd.1 h i a;unfold BU at this;simp only[aL,df]at this;rw[fN l i a]at this;exact this.1
  .have:=Ib h;unfold CX at this
   rwa [List.pairwise_map]at this
 .rintro⟨d,e⟩;refine kd.2 λi a=>?_
  unfold BU;rw[fN l i a,jl (d _ (List.getElem_mem a)),Bool.true_and];by_cases c:i=0
  .rw[jl c];rfl
  .rw[fN l (i-1) ae,jl (List.pairwise_iff_getElem.1 e (i-1) i ae a ae)];simp
def JR{g:List Rq}(h:g.Pairwise λa b=>a.1<b.1){i:Nat}(d:i<g.length):cO g g[i].1=i:=by
 refine wH d (λj f c e=>?_) rfl;have:=List.pairwise_iff_getElem.1 h j i f d c;omega
def JU{g:List Rq}(h:g.Pairwise λa b=>a.1<b.1){r:Rq}:sV g r=true↔(r.1,false)∈g:=by
 unfold sV;rw[aL,df];constructor
 .rintro⟨c,f⟩;have j:(λy:Rq=>y.1==r.1) g[cO g r.1]=true:=List.findIdx_getElem (w:=c);simp only[cH]at j;rw[fN g _ c]at f;have:g[cO g r.1]=(r.1,false):=Prod.ext j (by simpa using f);rw[<-this];exact List.getElem_mem c
 .intro k;obtain⟨i,d,e⟩:=List.getElem_of_mem k;have l:cO g r.1=i:=by
   have:=JR h d;rw[e]at this;exact this
  rw[l,fN g i d,e];exact⟨d,rfl⟩
structure VD(t:Td):Prop where
 g:Lv t.1
 a:iW t.2
 k:∀q∈t.2,lK q.1=true
 n:wF t.2
 r:∀q∈t.2,Lv q.2
 i:∀q∈t.2,∀r∈q.2,(r.1,false)∈t.1
def oH{t:Td}:gn t=true↔VD t:=by
 constructor
 .intro h;refine⟨r8.1 (Gr h),tJ h,λq a=>(AX h a).1,Ml h,λq a=>r8.1 (AX h a).2.1,λq a r d=>?_⟩;exact(JU (r8.1 (Gr h)).2).1 (List.all_eq_true.1 (AX h a).2.2 r d)
 .intro h;unfold gn;rw[r8.2 h.g,Bool.true_and];refine kd.2 λi f=>?_
  have b:=List.getElem_mem f;rw[aL];have e:t.2.getD i Q0=t.2[i]:=by rw[List.getD_eq_getElem?_getD,List.getElem?_eq_getElem f];rfl
  constructor
  .unfold tU;rw[e,h.k _ b,r8.2 (h.r _ b),jl (List.length_pos_iff.2 (h.n _ b))];by_cases c:i=0
   .rw[jl c];rfl
   .have g:t.2.getD (i-1) Q0=t.2[i-1]:=by rw[List.getD_eq_getElem?_getD,List.getElem?_eq_getElem ae];rfl
    rw[g,List.pairwise_iff_getElem.1 h.a (i-1) i ae f ae];simp
  .rw[e];exact List.all_eq_true.2 λr d=>(JU h.g.2).2 (h.i _ b r d)
def pU{g:List Rq}{x:Int}:cO g x<g.length↔∃r∈g,r.1=x:=by
 constructor
 .intro h;have a:(λy:Rq=>y.1==x) g[cO g x]=true:=List.findIdx_getElem (w:=h);simp only[cH]at a;exact⟨_,List.getElem_mem h,a⟩
 .rintro⟨r,b,rfl⟩;exact Ly (List.mem_map_of_mem b)
structure uA(t:Td)(x:Int)(f:Ft):Prop where
 v:VD t
 f:dk f=true
 nn:0<=x
 lt:∀r∈t.1,r.1<x
def qK(t:Td)(x:Int)(f:Ft):Td:=(t.1++[(x,f.all)],fk (other f.w f.r) (x,false) (fk f.w (x,true) t.2))
def Jl{t:Td}{x:Int}{f:Ft}:((jK t x f).2=0↔uA t x f)/\((jK t x f).2=0->(jK t x f).1=qK t x f)/\((jK t x f).2≠0->(jK t x f).1=([],[])):=by
 unfold jK;cases j:gn t with
 |false=>
  refine⟨⟨λh=>by simp at h,λh=>?_⟩,az,az⟩;rw[oH.2 h.v]at j;cases j
 |true=>
  have m:=oH.1 j;cases k:dk f with
  |false=>
   refine⟨⟨λh=>by simp at h,λh=>?_⟩,az,az⟩;rw[h.f]at k;cases k
  |true=>
   by_cases o:x<0
   .rw[jl o];refine⟨⟨λh=>by simp at h,λh=>?_⟩,az,az⟩;have:=h.nn;omega
   .rw[lR o];by_cases g:cO t.1 x<t.1.length
    .rw[aq g];refine⟨⟨λh=>by simp at h,λh=>?_⟩,az,az⟩;obtain⟨r,b,e⟩:=pU.1 g;have:=h.lt r b;omega
    .rw[ak g];have a:∀r∈t.1,r.1≠x:=λr b e=>g (pU.2 ⟨r,b,e⟩)
     cases d:qx t.1 x with
     |true=>
      refine⟨⟨λh=>by simp at h,λh=>?_⟩,az,az⟩;unfold qx at d;simp only[aL,df]at d;rw[fN t.1 _ ae]at d;have:=h.lt _ (List.getElem_mem (l:=t.1) (n:=t.1.length-1) ae);omega
     |false=>
      refine⟨⟨λ_=>⟨m,k,ae,λr b=>?_⟩,λ_=>az⟩,λ_=>by simp[qK],λh=>by simp at h⟩;obtain⟨i,p,rfl⟩:=List.getElem_of_mem b;have q:=a _ b;unfold qx at d;rw[jl (show 0<t.1.length by omega),Bool.true_and,GN,fN t.1 _ ae]at d;have s:=a _ (List.getElem_mem (l:=t.1) (n:=t.1.length-1) ae);rcases bS i (t.1.length-1)with c|c
      .have:=List.pairwise_iff_getElem.1 m.g.2 i (t.1.length-1) p ae c;omega
      .have:i=t.1.length-1:=ae;subst this;omega
def uA.nodup{t:Td}{x:Int}{f:Ft}(h:uA t x f):f.r.Nodup/\f.w.Nodup:=EU h.f
def FN{t:Td}{x:Int}{f:Ft}(h:uA t x f)(k:ByteArray):fB (qK t x f).2 k=fB t.2 k++js f x k:=Pj h.nodup.1 h.nodup.2 x h.v.a k
def J6{f:Ft}{x:Int}(a:dk f=true)(b:f.all=true)(k:ByteArray):js f x k=[]:=by
 unfold dk at a;rw[aq b]at a;simp only[aL,df]at a;unfold js;rw[List.length_eq_zero_iff.1 a.1,List.length_eq_zero_iff.1 a.2];rfl
def mH{f:Ft}{x:Int}{k:ByteArray}{r:Rq}(h:r∈js f x k):js f x k=[r]/\r.1=x/\(k∈f.w\/k∈f.r):=by
 unfold js at h⊢;split at h
 .rename_i c;rw[aq c];rw[List.mem_singleton]at h;rw[h];exact⟨rfl,rfl,.inl (ej.1 c)⟩
 .rename_i c;rw[ak c];split at h
  .rename_i a;rw[aq a];rw[List.mem_singleton]at h;rw[h];exact⟨rfl,rfl,.inr (ej.1 a)⟩
  .cases h
def JY{f:Ft}(h:dk f=true){k:ByteArray}(a:k∈f.w\/k∈f.r):lK k=true:=by
 unfold dk at h;split at h
 .simp only[aL,df]at h;rw[List.length_eq_zero_iff.1 h.1,List.length_eq_zero_iff.1 h.2]at a;simp at a
 .simp only[aL,df]at h;rcases a with a|a
  .exact(nT.1 h.2.1).1 k a
  .exact(nT.1 h.1.1).1 k a
def VD.fB{t:Td}(h:VD t)(k:ByteArray):Lv (fB t.2 k)/\∀r∈fB t.2 k,(r.1,false)∈t.1:=by
 by_cases c:Go.Dv.Tryz.fB t.2 k=[]
 .rw[c];exact⟨⟨az,List.Pairwise.nil⟩,az⟩
 .have a:=vf c;exact⟨h.r _ a,h.i _ a⟩
def iW.fk{a:List Qd}(h:iW a)(b:List ByteArray)(r:Rq):iW (fk b r a):=iW.qM _ _ h
def wF.fk{a:List Qd}(h:wF a)(b:List ByteArray)(r:Rq):wF (fk b r a):=wF.qM _ _ h
def uA.vd{t:Td}{x:Int}{f:Ft}(h:uA t x f):VD (qK t x f):=by
 have g:iW (qK t x f).2:=(h.v.a.fk _ _).fk _ _;have m:wF (qK t x f).2:=(h.v.n.fk _ _).fk _ _;have j:∀q∈(qK t x f).2,q.2=fB t.2 q.1++js f x q.1:=λq j=>by rw[<-FN h,F4 g j]
 refine⟨⟨λr d=>?_,?_⟩,g,λq i=>?_,m,λq i=>?_,λq i r d=>?_⟩
 .rcases List.mem_append.1 d with e|e
  .exact h.v.g.1 r e
  .rw[List.mem_singleton]at e;rw[e];exact h.nn
 .unfold qK;rw[List.pairwise_append];refine⟨h.v.g.2,List.pairwise_singleton _ _,λa g b k=>?_⟩;rw[List.mem_singleton]at k;rw[k];exact h.lt a g
 .have l:=m q i;rw[j q i]at l;by_cases c:fB t.2 q.1=[]
  .rw[c,List.nil_append]at l;obtain⟨r,d⟩:=List.exists_mem_of_ne_nil _ l;exact JY h.f (mH d).2.2
  .exact h.v.k (q.1,fB t.2 q.1) (vf c)
 .rw[j q i];obtain⟨n,o⟩:=h.v.fB q.1;refine⟨λr d=>?_,?_⟩
  .rcases List.mem_append.1 d with e|e
   .exact n.1 r e
   .rw[(mH e).2.1];exact h.nn
  .rw[List.pairwise_append];refine⟨n.2,?_,λa g b k=>?_⟩
   .by_cases c:js f x q.1=[]
    .rw[c];exact List.Pairwise.nil
    .obtain⟨r,d⟩:=List.exists_mem_of_ne_nil _ c;rw[(mH d).1];exact List.pairwise_singleton _ _
   .rw[(mH k).2.1];exact h.lt (a.1,false) (o a g)
 .rw[j q i]at d;unfold qK;rcases List.mem_append.1 d with e|e
  .exact List.mem_append_left _ ((h.v.fB q.1).2 r e)
  .have p:f.all=false:=by
    cases c:f.all with
    |false=>rfl
    |true=>rw[J6 h.f c]at e;cases e
   rw[(mH e).2.1,p];exact List.mem_append_right _ (List.mem_singleton.2 rfl)
def qV(t:Td)(x:Int):Td:=(t.1.filter (dZ x),kV x t.2)
def Jr{t:Td}{x:Int}:((lJ t x).2=0↔VD t/\∃r∈t.1,r.1=x)/\((lJ t x).2=0->(lJ t x).1=qV t x)/\((lJ t x).2≠0->(lJ t x).1=([],[])):=by
 unfold lJ;cases b:gn t with
 |false=>
  refine⟨⟨λh=>by simp at h,λh=>?_⟩,az,az⟩;rw[oH.2 h.1]at b;cases b
 |true=>
  have c:=oH.1 b;by_cases a:cO t.1 x<t.1.length
  .rw[ak az,aq a];exact⟨⟨λ_=>⟨c,pU.1 a⟩,λ_=>rfl⟩,λ_=>rfl,λh=>absurd rfl h⟩
  .rw[ak az,ak a];refine⟨⟨λh=>by simp at h,λh=>absurd (pU.2 h.2) a⟩,az,az⟩
def rW{x:Int}{b:List Qd}{q:Qd}:q∈kV x b↔q.2≠[]/\∃p∈b,q=(p.1,p.2.filter (dZ x)):=by
 unfold kV;rw[List.mem_filter,List.mem_map,df,List.length_pos_iff];constructor
 .rintro⟨⟨p,a,e⟩,h⟩;exact⟨h,p,a,e.symm⟩
 .rintro⟨h,p,a,e⟩;exact⟨⟨p,a,e.symm⟩,h⟩
def iW.kV{x:Int}{a:List Qd}(h:iW a):iW (kV x a):=by
 unfold Go.Dv.Tryz.kV iW;refine List.Pairwise.filter _ ?_;rw[List.pairwise_map];exact h
def nB{x:Int}{r:Rq}:dZ x r=true↔r.1≠x:=by unfold dZ;simp
def VD.qV{t:Td}(h:VD t)(x:Int):VD (qV t x):=by
 refine⟨⟨λr c=>h.g.1 r (List.mem_filter.1 c).1,h.g.2.filter _⟩,h.a.kV,λq a=>?_,λq a=>(rW.1 a).1,λq a=>?_,λq a r c=>?_⟩
 .obtain⟨_,p,b,rfl⟩:=rW.1 a;exact h.k p b
 .obtain⟨_,p,b,rfl⟩:=rW.1 a;exact⟨λr c=>(h.r p b).1 r (List.mem_filter.1 c).1,(h.r p b).2.filter _⟩
 .obtain⟨_,p,b,rfl⟩:=rW.1 a;obtain⟨d,e⟩:=List.mem_filter.1 c;exact List.mem_filter.2 ⟨h.i p b r d,nB.2 (nB.1 e)⟩
def D3{x:Int}(k:ByteArray):∀{b:List Qd},iW b->fB (kV x b) k=(fB b k).filter (dZ x)
 |[],_=>rfl
 |q::l,h=>by
  have d:=List.pairwise_cons.1 h;have f:=D3 (x:=x) k d.2;have e:kV x (q::l)=(if 0<(q.2.filter (dZ x)).length then[(q.1,q.2.filter (dZ x))]else[])++kV x l:=by
   unfold kV;rw[List.map_cons];by_cases c:0<(q.2.filter (dZ x)).length
   .rw[List.filter_cons_of_pos (by simp only;exact jl c),aq c];rfl
   .rw[List.filter_cons_of_neg (by simp only;rw[lR c];simp),ak c];rfl
  rw[e,fB];by_cases c:0<(q.2.filter (dZ x)).length
  .rw[aq c,List.singleton_append,fB,f];by_cases a:q.1=k
   .rw[aq a,aq a]
   .rw[ak a,ak a]
  .rw[ak c,List.nil_append,f];by_cases a:q.1=k
   .rw[aq a];subst a;rw[wN λp g=>(kf (d.1 p g)).symm];have:q.2.filter (dZ x)=[]:=List.length_eq_zero_iff.1 ae;rw[this];rfl
   .rw[ak a]
def Xq:VD ([],[]):=⟨⟨az,List.Pairwise.nil⟩,List.Pairwise.nil,az,by simp[wF],az,az⟩
end
section
open Go Go.Dv
abbrev kB:ByteArray:=⟨#[98]⟩
def fNo:Ft:=⟨false,true,[],true,[]⟩
end
section
open Go Go.Dv
structure wW(n:Nat)(d:Td):Prop where
 g:d.1.length<=n
 b:Bd n d.2
def wW.mono{n m:Nat}{d:Td}(h:wW n d)(b:n<=m):wW m d:=⟨by have:=h.g;omega,by have:=h.b.1;omega,λq a=>by have:=h.b.2 q a;omega⟩
def wW.tb{n:Nat}{a:Tb}{d:Td}(h:wW n d)(e:a.d=d):a.g.length<=n/\a.qs.length<=n/\∀q∈a.qs,q.reqs.length<=n:=by
 subst e;refine⟨h.g,by have:=h.b.1;simpa[Tb.d]using this,λq b=>?_⟩;have:=h.b.2 q.d (List.mem_map_of_mem b);simpa[Qu.d]using this
def wW.of{n:Nat}{t:Tb}(a:t.g.length<=n)(b:t.qs.length<=n)(c:∀q∈t.qs,q.reqs.length<=n):wW n t.d:=by
 refine⟨a,by simpa[Tb.d]using b,λq d=>?_⟩;obtain⟨p,e,rfl⟩:=List.mem_map.1 d;exact c p e
def Bd.fk(r:Rq):∀(a:List ByteArray) {n:Nat} {b:List Qd},Bd n b->Bd (n+a.length) (fk a r b)
 |[],_,_,h=>h
 |k::a,n,b,h=>by
  have:=Bd.fk r a (h.iX k r);have e:n+1+a.length=n+(k::a).length:=by simp;omega
  rw[e]at this;exact this
def wW.rel{n:Nat}{t:Td}(h:wW n t)(x:Int):wW n (lJ t x).1:=by
 obtain⟨_,b,c⟩:=Jr (t:=t) (x:=x);by_cases e:(lJ t x).2=0
 .rw[b e];refine⟨by unfold qV;have:=List.length_filter_le (dZ x) t.1;have:=h.g;simp only;omega,?_,λq d=>?_⟩
  .unfold qV kV;have a:=List.length_filter_le (λq:Qd=>decide (0<q.2.length)) (t.2.map λq=>(q.1,q.2.filter (dZ x)));rw[List.length_map]at a;have:=h.b.1;simp only;omega
  .obtain⟨_,p,f,rfl⟩:=rW.1 d;have a:=List.length_filter_le (dZ x) p.2;have:=h.b.2 p f;simp only;omega
 .rw[c e];exact⟨az,az,az⟩
end
section
open Go Go.Dv
def Pq(x:Int)(a b:Rq):Prop:=b.1=x/\a.1<x/\(a.2||b.2)=true
def yF{l:List Rq}(h:Lv l){x y:Int}:y∈beforeL l x↔∃a∈l,∃b∈l,a.1=y/\Pq x a b:=by
 unfold beforeL;constructor
 .intro k;split at k
  .rename_i c;obtain⟨a,m,rfl⟩:=List.mem_map.1 k;obtain⟨n,d⟩:=List.mem_filter.1 m;have f:(λr:Rq=>r.1==x) l[cO l x]=true:=List.findIdx_getElem (w:=c);simp only[cH]at f;obtain⟨i,o,rfl⟩:=List.getElem_of_mem n;rw[List.length_take]at o;rw[List.getElem_take];have p:=List.pairwise_iff_getElem.1 h.2 i (cO l x) ae c ae;unfold nO at d;rw[fN l _ c,List.getElem_take]at d;exact⟨l[i],List.getElem_mem _,l[cO l x],List.getElem_mem c,rfl,f,ae,d⟩
  .cases k
 .rintro⟨a,m,b,q,rfl,n,d,f⟩;obtain⟨j,g,rfl⟩:=List.getElem_of_mem q;obtain⟨i,o,rfl⟩:=List.getElem_of_mem m;have e:cO l x=j:=by rw[<-n];exact JR h.2 g
  have s:i<j:=by
   rcases Dt i j with c|c|c
   .exact c
   .subst c;omega
   .have:=List.pairwise_iff_getElem.1 h.2 j i g o c;omega
  rw[e,aq g];refine List.mem_map.2 ⟨l[i],List.mem_filter.2 ⟨?_,?_⟩,rfl⟩
  .rw[List.mem_iff_getElem];exact⟨i,by rw[List.length_take];omega,by rw[List.getElem_take]⟩
  .unfold nO;rw[fN l _ g];exact f
structure Em(t:Td)(x:Int):Prop where
 g:∀a∈t.1,∀b∈t.1,¬Pq x a b
 q:∀q∈t.2,∀a∈q.2,∀b∈q.2,¬Pq x a b
def sW{t:Td}(h:VD t){x:Int}:gV t x=[]↔Em t x:=by
 rw[List.eq_nil_iff_forall_not_mem];constructor
 .intro i;refine⟨λa c b d f=>i a.1 ?_,λq g a c b d f=>i a.1 ?_⟩
  .rw[uj];exact List.mem_append_left _ ((yF h.g).2 ⟨a,c,b,d,rfl,f⟩)
  .rw[uj];exact List.mem_append_right _ (List.mem_flatMap.2 ⟨q,g,(yF (h.r q g)).2 ⟨a,c,b,d,rfl,f⟩⟩)
 .intro j y k;rw[uj]at k;rcases List.mem_append.1 k with e|e
  .obtain⟨a,c,b,d,_,f⟩:=(yF h.g).1 e;exact j.g a c b d f
  .obtain⟨q,g,e⟩:=List.mem_flatMap.1 e;obtain⟨a,c,b,d,_,f⟩:=(yF (h.r q g)).1 e;exact j.q q g a c b d f
def nh{t:Td}{x:Int}:mF t x=true↔VD t/\(∃r∈t.1,r.1=x)/\Em t x:=by
 unfold mF;rw[aL,aL,df,df,oH,pU];constructor
 .rintro⟨⟨a,b⟩,c⟩;exact⟨a,b,(sW a).1 (List.length_eq_zero_iff.1 c)⟩
 .rintro⟨a,b,c⟩;exact⟨⟨a,b⟩,by rw[(sW a).2 c];rfl⟩
def mem_ready{t:Td}{x:Int}:x∈iI t↔mF t x=true:=by
 rw[<-NJ,List.mem_filter];refine⟨λh=>h.2,λh=>⟨?_,h⟩⟩;obtain⟨_,⟨r,a,e⟩,_⟩:=nh.1 h;rw[<-e];exact List.mem_map_of_mem a
def gone{t:Td}{x:Int}:mF (qV t x) x=false:=by
 cases c:mF (qV t x) x with
 |false=>rfl
 |true=>
  obtain⟨_,⟨s,a,e⟩,_⟩:=nh.1 c;exact absurd e (nB.1 (List.mem_filter.1 a).2)
def JF{t:Td}(d:VD t)(h:0<t.1.length):gV t t.1[0].1=[]:=by
 have c:∀r∈t.1,t.1[0].1<=r.1:=λr j=>by
  obtain⟨i,k,rfl⟩:=List.getElem_of_mem j;rcases pO i with e|e
  .subst e;omega
  .have:=List.pairwise_iff_getElem.1 d.g.2 0 i h k e;omega
 refine(sW d).2 ⟨λa f b l g=>?_,λq m a f b l g=>?_⟩
 .have:=c a f;have:=g.2.1;omega
 .have:=c _ (d.i q m a f);have:=g.2.1;simp only at*;omega
end
section
open Go Go.Dv
end
section
open Go Go.Dv
def iy(l:List Ft)(i:Nat):Ft:=l.getD i fNo
def lk(l:List Ft):Nat->Td
 |0=>([],[])
 |n+1=>qK (lk l n) (n:Int) (iy l n)
structure LI(l:List Ft)(t:Td):Prop where
 v:VD t
 g:∀r∈t.1,∃i:Nat,i<l.length/\r=((i:Int),(iy l i).all)
 q:∀i:Nat,(∃r∈t.1,r.1=(i:Int))->∀k,∀r∈js (iy l i) (i:Int) k,r∈fB t.2 k
def FQ(l:List Ft):Prop:=∀f∈l,dk f=true
def FQ.at{l:List Ft}(h:FQ l){i:Nat}(a:i<l.length):dk (iy l i)=true:=by
 unfold iy;rw[List.getD_eq_getElem?_getD,List.getElem?_eq_getElem a];exact h _ (List.getElem_mem a)
def Is{l:List Ft}(h:FQ l):∀n,n<=l.length->LI l (lk l n)/\∀r∈(lk l n).1,r.1<(n:Int)
 |0,_=>⟨⟨Xq,by simp[lk],by simp[lk]⟩,by simp[lk]⟩
 |n+1,o=>by
  obtain⟨d,b⟩:=Is h n ae;have f:uA (lk l n) (n:Int) (iy l n):=⟨d.v,h.at ae,ae,b⟩;refine⟨⟨f.vd,λr a=>?_,λi g k r a=>?_⟩,λr a=>?_⟩
  .rcases List.mem_append.1 a with e|e
   .exact d.g r e
   .rw[List.mem_singleton]at e;exact⟨n,ae,e⟩
  .show r∈fB (qK (lk l n) n (iy l n)).2 k
   rw[FN f];obtain⟨s,j,e⟩:=g;rcases List.mem_append.1 j with c|c
   .exact List.mem_append_left _ (d.q i ⟨s,c,e⟩ k r a)
   .rw[List.mem_singleton]at c;rw[c]at e;have m:n=i:=by simp only at e;omega
    subst m;exact List.mem_append_right _ a
  .rcases List.mem_append.1 a with e|e
   .have:=b r e;omega
   .rw[List.mem_singleton]at e;rw[e];simp only;omega
def Si{l:List Ft}(h:FQ l){n:Nat}(b:n<l.length):uA (lk l n) (n:Int) (iy l n):=by
 obtain⟨c,a⟩:=Is h n ae;exact⟨c.v,h.at b,ae,a⟩
def Ls(l:List Ft):∀n,(lk l n).1.length=n
 |0=>rfl
 |n+1=>by
  have:=Ls l n;unfold lk qK;simp[this]
def LI.del{l:List Ft}{t:Td}(h:LI l t)(x:Int):LI l (qV t x):=by
 refine⟨h.v.qV x,λr a=>h.g r (List.mem_filter.1 a).1,λi b k r a=>?_⟩;obtain⟨s,c,e⟩:=b;obtain⟨d,f⟩:=List.mem_filter.1 c
 show r∈fB (kV x t.2) k
 rw[D3 k h.v.a];refine List.mem_filter.2 ⟨h.q i ⟨s,d,e⟩ k r a,nB.2 ?_⟩;rw[(mH a).2.1,<-e];exact nB.1 f
def Cg{f:Ft}{k:ByteArray}(h:k∈f.w)(x:Int):(x,true)∈js f x k:=by
 unfold js;rw[aq (ej.2 h)];simp
def OB{f:Ft}{k:ByteArray}(h:k∈f.r)(x:Int):∃b,(x,b)∈js f x k:=by
 unfold js;cases c:hasB f.w k with
 |true=>exact⟨true,az⟩
 |false=>exact⟨false,by rw[ej.2 h];simp⟩
def F1{a b:List ByteArray}:oi a b=true↔∃k,k∈a/\k∈b:=by
 unfold oi;rw[List.any_eq_true];constructor
 .rintro⟨k,c,d⟩;exact⟨k,c,ej.1 d⟩
 .rintro⟨k,c,d⟩;exact⟨k,c,ej.2 d⟩
def Lp{l:List Ft}{t:Td}(u:FQ l)(h:LI l t){i j:Nat}(D:i<j)(v:∃r∈t.1,r.1=(i:Int))(w:∃r∈t.1,r.1=(j:Int))(x:Em t (j:Int)):
  pA (iy l j) (iy l i)=false/\pA (iy l i) (iy l j)=false:=by
 have y:i<l.length/\((i:Int),(iy l i).all)∈t.1:=by
  obtain⟨r,o,e⟩:=v;obtain⟨E,f,d⟩:=h.g r o;rw[d]at e;have:E=i:=by simp only at e;omega
  subst this;exact⟨f,d▸o⟩
 have z:j<l.length/\((j:Int),(iy l j).all)∈t.1:=by
  obtain⟨r,o,e⟩:=w;obtain⟨F,f,d⟩:=h.g r o;rw[d]at e;have:F=j:=by simp only at e;omega
  subst this;exact⟨f,d▸o⟩
 have G:=u.at y.1;have H:=u.at z.1;have g:(iy l i).all=false/\(iy l j).all=false:=by
  have:=x.g _ y.2 _ z.2;unfold Pq at this;cases I:(iy l i).all<;>cases J:(iy l j).all<;>simp[I,J]at this⊢<;>omega
 have m:∀k p q,((i:Int),p)∈js (iy l i) i k->((j:Int),q)∈js (iy l j) j k->(p||q)=false:=λk p q f d=>by
  have A:=h.q i v k _ f;have K:=h.q j w k _ d;have L:=vf (l:=t.2) (k:=k) (List.ne_nil_of_mem A);have:=x.q _ L _ A _ K;cases c:(p||q)with
  |false=>rfl
  |true=>exact absurd ⟨rfl,by simp only;omega,c⟩ this
 have B:∀k,k∈(iy l i).w->k∈(iy l j).w->False:=λk f d=>by simpa using m k true true (Cg f _) (Cg d _)
 have C:∀k,k∈(iy l i).w->k∈(iy l j).r->False:=λk f d=>by
  obtain⟨b,s⟩:=OB d (j:Int);simpa using m k true b (Cg f _) s
 have rw':∀k,k∈(iy l i).r->k∈(iy l j).w->False:=λk f d=>by
  obtain⟨b,s⟩:=OB f (i:Int);simpa using m k b true s (Cg d _)
 have n:∀a b:List ByteArray,(∀k,k∈a->k∈b->False)->oi a b=false:=λa b h=>by
  cases c:oi a b with
  |false=>rfl
  |true=>obtain⟨k,f,d⟩:=F1.1 c;exact(h k f d).elim
 unfold pA;rw[G,H,g.1,g.2];constructor
 .rw[n _ _ λk f d=>B k d f,n _ _ λk f d=>rw' k d f,n _ _ λk f d=>C k d f];rfl
 .rw[n _ _ λk f d=>B k f d,n _ _ λk f d=>C k f d,n _ _ λk f d=>rw' k f d];rfl
def Vq{t:Td}(f:VD t){x:Int}(g:∃r∈t.1,r.1=x):(qV t x).1.length+1=t.1.length:=by
 obtain⟨r,a,rfl⟩:=g;obtain⟨i,b,rfl⟩:=List.getElem_of_mem a;have d:=f.g.2;have e:t.1=t.1.take i++t.1[i]::t.1.drop (i+1):=by rw[<-List.drop_eq_getElem_cons b,List.take_append_drop]
 have h:(t.1.take i).filter (dZ t.1[i].1)=t.1.take i:=List.filter_eq_self.2 λr a=>by
  obtain⟨j,c,rfl⟩:=List.getElem_of_mem a;rw[List.length_take]at c;rw[nB,List.getElem_take];have:=List.pairwise_iff_getElem.1 d j i ae b ae;omega
 have k:(t.1.drop (i+1)).filter (dZ t.1[i].1)=t.1.drop (i+1):=List.filter_eq_self.2 λr a=>by
  obtain⟨j,c,rfl⟩:=List.getElem_of_mem a;rw[List.length_drop]at c;rw[nB,List.getElem_drop];have:=List.pairwise_iff_getElem.1 d i (i+1+j) b ae ae;omega
 have l:t.1.filter (dZ t.1[i].1)=t.1.take i++t.1.drop (i+1):=by
  refine(AV (List.filter (dZ t.1[i].1)) e).trans ?_;rw[List.filter_append,List.filter_cons_of_neg (by simp[dZ]),h,k]
 unfold qV;simp only;rw[l,List.length_append,List.length_take,List.length_drop];omega
def PM{t:Td}(a:VD t)(h:0<t.1.length):iI t≠[]:=by
 have:t.1[0].1∈iI t:=mem_ready.2 (nh.2 ⟨a,⟨t.1[0],List.getElem_mem h,rfl⟩,(sW a).1 (JF a h)⟩);exact List.ne_nil_of_mem this
def LI.ready{l:List Ft}{t:Td}(h:LI l t){x:Int}(c:x∈iI t):∃i:Nat,i<l.length/\x=i/\(∃r∈t.1,r.1=(i:Int))/\Em t (i:Int):=by
 obtain⟨_,⟨r,a,e⟩,d⟩:=nh.1 (mem_ready.1 c);obtain⟨i,f,b⟩:=h.g r a;rw[b]at e;simp only at e;subst e;exact⟨i,f,rfl,⟨r,a,by rw[b]⟩,d⟩
def MX{t:Td}{x:Int}(d:x∈iI t):lJ t x=(qV t x,0):=by
 obtain⟨e,f,_⟩:=nh.1 (mem_ready.1 d);obtain⟨a,b,_⟩:=Jr (t:=t) (x:=x);have c:=a.2 ⟨e,f⟩;exact Prod.ext (b c) c
end
section
open Go Go.Dv
def s4(l:List Tx):List Ft:=(gT l).map jI
def Cl(l:List Tx):(s4 l).length=l.length:=by simp[s4]
def Iz(f:Ft):dk (jI f)=true:=by
 unfold jI;split
 .assumption
 .rfl
def zP(l:List Tx):FQ (s4 l):=by
 intro f a;obtain⟨g,_,rfl⟩:=List.mem_map.1 a;exact Iz g
def H2{l:List Tx}{i:Nat}(h:i<l.length):iy (s4 l) i=iC (gT l) i:=by
 rw[Hm,gQ i h];unfold iy s4 gT;simp[List.getD_eq_getElem?_getD,h]
section
variable{procs:List Pc}{l:List Tx}{s:List Pr}{D:Nat->Bool}
def MO{i j:Nat}(q:i<l.length)(r:j<l.length)(h:pA (iy (s4 l) i) (iy (s4 l) j)=false)(g:Gf):
  (∀k∈((qz procs l).ef g j).reads,¬wk gW ((qz procs l).ef g i) k)/\∀k,wk gW ((qz procs l).ef g i) k->¬wk gW ((qz procs l).ef g j) k:=by
 rw[H2 q,H2 r]at h;unfold pA at h;simp only[AS]at h;obtain⟨⟨⟨⟨⟨⟨_,_⟩,t⟩,u⟩,e⟩,f⟩,A⟩:=h;obtain⟨m,v⟩:=zF (procs:=procs) t;obtain⟨n,w⟩:=zF (procs:=procs) u;rw[v,w]at e f;have o:∀{a b:List ByteArray},oi a b=false->∀k,k∈a->k∈b->False:=λp k x y=>by
  rw[F1.2 ⟨k,x,y⟩]at p;cases p
 refine⟨λk z c=>?_,λk c d=>?_⟩
 .exact o f k ((qz procs l).ws i _ k m c) ((qz procs l).rs j _ n k z)
 .exact o e k ((qz procs l).ws i _ k m c) ((qz procs l).ws j _ k n d)
structure KI(l:List Tx)(t:Td)(D:Nat->Bool):Prop where
 L:LI (s4 l) t
 d:∀i,i<l.length->(D i=false↔∃r∈t.1,r.1=(i:Int))
 c:∀i j,i<l.length->j<i->D i=true->D j=false->pA (iy (s4 l) i) (iy (s4 l) j)=false
def KI.ready{t:Td}(h:KI l t D){x:Int}(b:x∈iI t):∃i:Nat,i<l.length/\x=i/\D i=false/\Em t (i:Int):=by
 obtain⟨i,a,e,c,d⟩:=h.L.ready b;rw[Cl]at a;exact⟨i,a,e,(h.d i a).2 c,d⟩
def KI.step{t:Td}(h:KI l t D){i:Nat}(q:i<l.length)(o:D i=false)(p:Em t (i:Int)):KI l (qV t (i:Int)) (j2 D i):=by
 refine⟨h.L.del _,λa g=>?_,λa b g m f d=>?_⟩
 .unfold j2;simp only[AS,GN];constructor
  .rintro⟨j,n⟩;obtain⟨r,k,e⟩:=(h.d a g).1 j;refine⟨r,List.mem_filter.2 ⟨k,nB.2 ?_⟩,e⟩;rw[e];omega
  .rintro⟨r,k,e⟩;obtain⟨j,n⟩:=List.mem_filter.1 k;refine⟨(h.d a g).2 ⟨r,j,e⟩,?_⟩;have:=nB.1 n;rw[e]at this;omega
 .unfold j2 at f d;simp only[AS,GN]at d;simp only[ji,df]at f;rcases f with c|rfl
  .exact h.c a b g m c d.1
  .exact(Lp (zP l) h.L m ((h.d b ae).1 d.1) ((h.d a g).1 o) p).1
structure IP(procs:List Pc)(l:List Tx)(s:List Pr)(D:Nat->Bool)(now:List Pr):Prop where
 bad:iJ s=false->now=s
 ok:iJ s=true->iJ now=true/\cD now=pt gW (bH procs l s) D (cD s) l.length
def Fv(a:List Pr->Bool)(b:Nat->Ef)(g:Gf):∀n,pt a b (λ_=>false) g n=g
 |0=>rfl
 |n+1=>by simp only[pt,Bool.false_eq_true,cK];exact Fv a b g n
def Mz:IP procs l s (λ_=>false) s:=⟨λ_=>rfl,λh=>⟨h,(Fv _ _ _ _).symm⟩⟩
def TO{t:Td}{d:List Pr}(h:KI l t D)(x:IP procs l s D d){i:Nat}(g:i<l.length)(j:D i=false)(z:Em t (i:Int)):
  eA procs (ec l i) d=bH procs l s i/\IP procs l s (j2 D i) (eE d (bH procs l s i)):=by
 cases f:iJ s with
 |false=>
  have e:=x.bad f;subst e;have p:bH procs l d i=oE:=by
   unfold bH;rw[uG procs l f,rB procs f]
  rw[p,rB procs f];refine⟨rfl,⟨λ_=>by simp[eE],λh=>?_⟩⟩;rw[f]at h;cases h
 |true=>
  have m:bH procs l s=(qz procs l).ef (cD s):=funext λi=>uv procs l f i
  obtain⟨q,n⟩:=x.ok f;have p:eA procs (ec l i) d=bH procs l s i:=by
   rw[rM procs l i q,n,m];refine(qz procs l).same (cD s) ae (λa r b k u=>?_) λa q n b k u=>?_
   .have:=(Lp (zP l) h.L r ((h.d a ae).1 b) ((h.d i g).1 j) z).2;exact(MO ae g this (cD s)).1 k u
   .have v:i<a:=by
     rcases bS i a with c|c
     .exact c
     .obtain rfl:a=i:=ae;rw[j]at b;cases b
    exact(MO n g (h.c a i n v b j) (cD s)).1 k u
  refine⟨p,⟨λh=>?_,λ_=>?_⟩⟩
  .rw[f]at h;cases h
  .obtain⟨A,B⟩:=Ee q (bH procs l s i);refine⟨A,?_⟩;rw[B,n];funext k;refine(Lb j g λa r o b y=>?_).symm;rw[m]at y⊢;intro w;exact(MO o g (h.c a i o r b j) (cD s)).2 k w y
def Xd{a:List Pr}(c:IP procs l s D a)(hD:∀i,i<l.length->D i=true):a=dt procs l s l.length:=by
 cases b:iJ s with
 |false=>rw[c.bad b,uG procs l b]
 |true=>
  obtain⟨d,e⟩:=c.ok b;refine RF procs l b d ?_;rw[e,(qz procs l).Cd,show bH procs l s=(qz procs l).ef (cD s)from funext λi=>uv procs l b i];exact Ah hD
def QR:KI l (lk (s4 l) l.length) (λ_=>false):=by
 have h:=Is (zP l) l.length (by rw[Cl];exact Nat.le_refl _);refine⟨h.1,λi a=>⟨λ_=>?_,λ_=>rfl⟩,λi j _ _ h=>by cases h⟩;clear h;have:∀n,i<n->∃r∈(lk (s4 l) n).1,r.1=(i:Int):=by
  intro n;induction n with
  |zero=>intro h;omega
  |succ n b=>
   intro h;rcases bS i n with c|c
   .obtain⟨r,d,e⟩:=b c;exact⟨r,List.mem_append_left _ d,e⟩
   .obtain rfl:i=n:=ae;exact⟨_,List.mem_append_right _ (List.mem_singleton.2 rfl),rfl⟩
 exact this _ a
def Wr{t:Td}(h:KI l t D)(c:t.1.length+kH D l.length=l.length){i:Nat}(a:i<l.length)(b:D i=false):(qV t (i:Int)).1.length+kH (j2 D i) l.length=l.length:=by
 have d:=Vq h.L.v ((h.d i a).1 b);rw[uW b a];omega
end
def tC(f:Ft):Nat:=f.r.length+f.w.length+1
def mu:List Tx->Nat
 |[]=>0
 |t::l=>tC t.dx+mu l
def Bk:∀(l:List Tx) (t:Tx),mu (l++[t])=mu l+tC t.dx
 |[],t=>by simp[mu]
 |x::l,t=>by simp only[List.cons_append,mu,Bk l t];omega
def By:∀(l:List Tx) (n:Nat),mu (l.take n)<=mu l
 |[],n=>az
 |x::l,0=>by simp[mu]
 |x::l,n+1=>by simp only[List.take_succ_cons,mu];have:=By l n;omega
def QO(f:Ft):tC (jI f)<=tC f:=by
 unfold jI;split
 .exact Nat.le_refl _
 .simp[tC]
end
section
open Go Go.Dv
def Hn(p:List DV)(n:Nat)(o:List ByteArray):Heap:=[(4,.var false [.p (.int .i64 n),.func 201 [.ptr 1 0],.func 200 []]),(3,.var false p),(2,.row false 1 (aF o)),(1,.var false [.ref 2 o.length 0 o.length]),(0,.var false p)]
def Vs(o:List ByteArray)(b:cl)(d:Int):List ByteArray:=match b with
 | .mk a name _ _ _ _ _ _ _=>if a=1\/a=6 then o++[name]else o
def Vz(p:Pc):WF 5 4 (Hn (fG p)) (.func 201 [.ptr 1 0]) (.func 200 []) where
 wb:=ae
 gw:=λn s=>rfl
 sw:=λn s m=>rfl
 ba:=λn s c hc=>by
  have h4:4<c:=ae;have h3:3<c:=ae;have h2:2<c:=ae;have h1:1<c:=ae;have h0:0<c:=ae;simp[Hn,aD,h4,h3,h2,h1,h0]
 al:=λn s c hc=>by
  have h1:1<c:=ae;have h2:2<c:=ae;simp[Hn,de,bq.below,below,dep,h1,h2]
 no:=λn s c hc=>by
  have h4:¬4=c:=ae;have h3:¬3=c:=ae;have h2:¬2=c:=ae;have h1:¬1=c:=ae;have h0:¬0=c:=ae;simp[Hn,ag,h4,h3,h2,h1,h0]
def K2(p:List DV)(n:Nat)(o:List ByteArray)(k:ByteArray):aC (aC (Hn p n o) 2 (.row false 1 (aF (o++[k])))) 1 (.var false [.ref 2 (o.length+1) 0 (o.length+1)])=Hn p n (o++[k]):=by simp[Hn,aC]
def vH(o:List ByteArray)(k:ByteArray):aF o++[[.str k]]=aF (o++[k]):=by simp[aF]
def MW(p:Pc){L:Heap}{i:Nat}(h:sE 5 L i)(n:Nat)(o:List ByteArray)(D:o.length<=2097152)(k:cl)(d:Int):BS tb 201 [.agg k.d,.p (.int .i64 d),.ptr 1 0] (L++Hn (fG p) n o) i (.tuple []) (L++Hn (fG p) n (Vs o k d)) i:=by
 have g:=(Vz p).g h;obtain⟨e,name,max,a,b,f,t,E,A⟩:=k;have l:∀o,ag (L++Hn (fG p) n o) 1=some (.var false [.ref 2 o.length 0 o.length]):=λo=>by rw[dK (h.no 1 (.inr ae))];rfl
 have m:∀o,ag (L++Hn (fG p) n o) 2=some (.row false 1 (aF o)):=λo=>by rw[dK (h.no 2 (.inr ae))];rfl
 have u:∀o b,aC (L++Hn (fG p) n o) 2 b=L++aC (Hn (fG p) n o) 2 b:=λo b=>iO (h.no 2 (.inr ae))
 have v:∀o b c,aC (L++aC (Hn (fG p) n o) 2 b) 1 c=L++aC (aC (Hn (fG p) n o) 2 b) 1 c:=λo b c=>iO (h.no 1 (.inr ae))
 have w:∀o b,ag (L++aC (Hn (fG p) n o) 2 b) 1=some (.var false [.ref 2 o.length 0 o.length]):=λo b=>by rw[dK (h.no 1 (.inr ae))];rfl
 have B:=h.ge;have q:(i==1)=false:=fy.2 ae;have r:(i==2)=false:=fy.2 ae;have x:(o.length+1)*16<=an:=by simp only[an];omega
 have y:o.length+1<=an:=by simp only[an];omega
 have z:bT 1 [[PV.str name]]=true:=rfl;simp only[cl.d,dR];refine ib (af:=a201) rfl rfl ?_;unfold a201;dsimp only[ai];unfold Vs;by_cases j:e=1
 .simp only[aq (Or.inl j:e=1\/e=6)];exact gN (aaB g.n0 g.b0 g.l0 g.b1 g.l1 l m w v u q r (bU j) @au vH @K2 x y z) k0
 .by_cases s:e=6
  .simp only[aq (Or.inr s:e=1\/e=6)];exact gN (R3 g.n0 g.b0 g.l0 g.b1 g.l1 l m w v u q r j (bU s) @au vH @K2 x y z) k0
  .have C:¬(e=1\/e=6):=ae;simp only[ak C];exact gN (rL g.n0 g.b0 g.l0 g.b1 g.l1 l m q r j s) k0
def Tr(p:Pc):WC 5 4 (Hn (fG p)) 201 [.ptr 1 0] 200 [] (λn o=>o.length+n<=2097152) Vs (λs _=>s) where
 wf:=Vz p
 mono:=λh1 h2=>ae
 S:=λh n o st d hst hz _ hi=>MW p h n o ae st d
 R:=λh n s e _ _ _ _ _=>by
  have g:=(Vz p).g h;exact CA (L:=[]) e (g.n0 n s) (g.b0 n s) (g.l0 n s)
 iS:=λ{n s st d} h=>by
  obtain⟨op,name,max,a,b,f,body,gg,els⟩:=st;simp only[Vs];split
  .simp only[List.length_append,List.length_cons,List.length_nil];omega
  .omega
 iR:=λh=>ae
noncomputable def Dz (p:Pc) (o:List ByteArray):Nat×List ByteArray:=pd Vs (λs _=>s) p.body 1 (401,o)
def QE(p:Pc)(o:List ByteArray)(c:o.length<=1048576)(b:dU p.body)(d:eZ p.body<=1048576):BS tb 197 [.agg (fG p),.func 201 [.ptr 1 0],.func 200 []] [(2,.row false 1 (aF o)),(1,.var false [.ref 2 o.length 0 o.length]),(0,.var false (fG p))] 3 (.p (.int .i64 (401-(Dz p o).1)))
  [(2,.row false 1 (aF (Dz p o).2)),(1,.var false [.ref 2 (Dz p o).2.length 0 (Dz p o).2.length]),(0,.var false (fG p))] 3:=by
 have h:=qt (Tr p) 1048577 p.body ae ae b p.fb [] 5 401 o 1 (FM 5) ae ae;have a:=(kX (Tr p) p.body 1 (401,o) (by simp only;omega)).2;refine ib (af:=Eu) rfl rfl ?_;unfold Eu;dsimp only[ai]
 change BS tb _ _ (Hn (fG p) 401 o) 5 _ (Hn (fG p) (Dz p o).1 (Dz p o).2) 5 at h
 change(Dz p o).1<=401 at a
 generalize Dz p o=x at h a⊢;simp only[Hn]at h;exact gR trivial trivial h k0;all_goals simp
noncomputable def yU (p:Pc):List ByteArray:=(Dz p (p.ps.map (·.name))).2
def BJ(p:Pc)(h:o7 p):(yU p).length<=2097152:=by
 have:=(kX (Tr p) p.body 1 (401,p.ps.map (·.name)) (by simp only[List.length_map];have:=h.pl;omega)).1;simp only[yU,Dz];omega
def Qw(p:Pc)(h:o7 p):PS tb 165 [.agg (eV p)] (.slice false (aF (yU p))):=by
 have f:=h.pl;have d:=QE p (p.ps.map (·.name)) (by rw[List.length_map];exact f) h.bo h.bz;have b:=BJ p h;unfold yU at b⊢;generalize Dz p (p.ps.map (·.name))=x at d b⊢;refine bD (af:=To) rfl rfl ?_;unfold To;dsimp only[List.map,aI,ai,eV];refine gN (bA @cN eW) (k1 ?_);refine bL (λj k=>∃i:Nat,i+j=p.ps.length/\k=⟨[(1,.ptr 0 0),(3,.ptr 1 0),(7,.p (.slice p.fp (im p.ps))),(8,.p (.int .i64 p.ps.length)),(9,.p (.int .i64 i))],[(2,.row false 1 (aF ((p.ps.take i).map (·.name)))),(1,.var false [.ref 2 i 0 i]),(0,.var false (fG p))],3,[0]⟩) ?_ p.ps.length _ ⟨0,ae,rfl⟩;rintro j k ⟨i,t,rfl⟩;refine aH KT.eq_1 ?_;rcases bS i p.ps.length with c|c
 .have a:(i:Int)<p.ps.length:=ae;have l:(0:Int)<=i:=ae;have m:=n8 p.ps i c;have n:(i+1)*16<=an:=by simp only[an];omega
  have o:i+1<=an:=by simp only[an];omega
  have q:bT 1 [[PV.str p.ps[i].name]]=true:=rfl;have r:(aF ((p.ps.take i).map (·.name))).length=i:=by simp[aF];omega
  have s:aF ((p.ps.take i).map (·.name))++[[.str p.ps[i].name]]=aF ((p.ps.take (i+1)).map (·.name)):=by rw[List.take_succ_eq_append_getElem c];simp only[aF,List.map_append,List.map_cons,List.map_nil]
  refine gN (rG a l m n o q r s @cN) (k1 ?_);exact LI.next (m':=j-1) ae ⟨i+1,ae,rfl⟩
 .have a:¬(i:Int)<p.ps.length:=ae;have g:i=p.ps.length:=ae;rw[List.take_of_length_le c];rw[List.length_map]at d;rw[g];have a:¬(p.ps.length:Int)<p.ps.length:=ae;repeat'(first|exact d|(simp(disch:=omega) only[go_sem,seval,reduceCtorEq,a,au,List.take_of_length_le])|with_reducible exact Ev.mk|refine pw ?_|apply nf|(refine ct (by first|with_reducible exact Ev.mk|(simp(disch:=omega) only[go_sem,seval,reduceCtorEq,a,au,List.take_of_length_le];done)|(simp(disch:=omega) only[go_sem,seval,reduceCtorEq,a,au,List.take_of_length_le];with_reducible exact Ev.mk)) (by first|with_reducible exact Ev.mk|(simp(disch:=omega) only[go_sem,seval,reduceCtorEq,a,au,List.take_of_length_le];done)|(simp(disch:=omega) only[go_sem,seval,reduceCtorEq,a,au,List.take_of_length_le];with_reducible exact Ev.mk)) (d) (by first|with_reducible exact Ev.mk|(simp(disch:=omega) only[go_sem,seval,reduceCtorEq,a,au,List.take_of_length_le];done)|(simp(disch:=omega) only[go_sem,seval,reduceCtorEq,a,au,List.take_of_length_le];with_reducible exact Ev.mk)) ?_)|(refine cW (by first|with_reducible exact Ev.mk|(simp(disch:=omega) only[go_sem,seval,reduceCtorEq,a,au,List.take_of_length_le];done)|(simp(disch:=omega) only[go_sem,seval,reduceCtorEq,a,au,List.take_of_length_le];with_reducible exact Ev.mk)) (d) ?_)|((first|apply aY|apply aQ)<;>intro e u<;>(simp(disch:=omega) only[go_sem,seval,reduceCtorEq,a,au,List.take_of_length_le,e])<;>clear e))
  rw[List.take_of_length_le (by rw[au];omega)]
end
end Go.Dv.Tryz
