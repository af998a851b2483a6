/- Lemmas for the law of this claim. -/
import Derived.Test.YtcphhjkcgikdgaaGreatDoorP36
set_option linter.all false
set_option maxRecDepth 100000
set_option maxHeartbeats 4000000
namespace Go.Dv.Tryz
section
open Go Go.Dv
def sV(g:List Rq)(r:Rq):Bool:=decide (cO g r.1<g.length)&&!(g.getD (cO g r.1) (0,false)).2
abbrev Q0:Qd:=(⟨#[]⟩,[])
def tU(l:List Qd)(i:Nat):Bool:=lK (l.getD i Q0).1&&(decide (i=0)||slt (l.getD (i-1) Q0).1 (l.getD i Q0).1)&&decide (0<(l.getD i Q0).2.length)&&qN (l.getD i Q0).2
def gn(t:Td):Bool:=qN t.1&&(List.range t.2.length).all λi=>tU t.2 i&&(t.2.getD i Q0).2.all (sV t.1)
def Oq(l:List Qu)(i:Nat)(h:i<l.length):(l.map Qu.d).getD i Q0=(l[i].key,l[i].reqs):=by
 rw[List.getD_eq_getElem?_getD,List.getElem?_map,List.getElem?_eq_getElem h];rfl
def pG{g:List Rq}{x:Int}(h:¬cO g x<g.length):qu g x=-1:=by unfold qu;rw[ak h]
def pI{g:List Rq}{x:Int}(h:cO g x<g.length):qu g x=(cO g x:Int):=by unfold qu;rw[aq h]
def N9(g:List Rq)(r:Bool)(v:g.length<=8388608)(X Q N I:PV)(a:List Rq)(b:Bool)(B:a.length<=8388608)(K:Ex->St->Prop)
  (w:a.all (sV g)=true->K (.exit 2) ⟨[(1,.ptr 0 0),(13,.p Q),(14,.p N),(15,.p I)],[(0,.var false [.p (.slice r (bM g)),.p X])],1,[0]⟩)
  (x:a.all (sV g)=false->∀k,ag k.env 2=some (.p (.bool false))->K .ret k):∀(m i:Nat),i+m=a.length->(a.take i).all (sV g)=true->
  W tb yW ⟨[(1,.ptr 0 0),(13,.p Q),(14,.p N),(15,.p I),(53,.p (.slice b (bM a))),(54,.p (.int .i64 a.length)),(55,.p (.int .i64 i))],[(0,.var false [.p (.slice r (bM g)),.p X])],1,[0]⟩ (LK tb (.ghost (.free [4,6]) (.ghost .lower yW)) K):=by
 intro m;induction m with
 |zero=>
  rintro i y p;have f:¬(i:Int)<a.length:=ae;rw[List.take_of_length_le ae]at p;refine aH yW.eq_1 ?_;refine gN f (k1 ?_);exact w p
 |succ m z=>
  rintro i y p;have f:(i:Int)<a.length:=ae;have s:i<a.length:=ae;have l:(0:Int)<=i:=ae;have n:=iq a i s;have q:=qp g r a[i].1 v;have o:sV g a[i]=false->∀k,ag k.env 2=some (.p (.bool false))->K .ret k:=λh=>x (O0 _ _ i s h)
  have t:sV g a[i]=true->_:=λh=>z (i+1) ae (Fy _ _ i s p h)
  refine aH yW.eq_1 ?_;by_cases c:cO g a[i].1<g.length
  .rw[pI c]at q;have k1:¬((cO g a[i].1:Nat):Int)<0:=ae;have k2:(0:Int)<=((cO g a[i].1:Nat):Int):=ae;have j:=iq g _ c;have e:sV g a[i]=!(g[cO g a[i].1]).2:=by unfold sV;rw[jl c,fN g _ c];rfl
   cases u:(g[cO g a[i].1]).2 with
   |true=>
    rw[u]at j e;repeat'(first|exact q|(simp(disch:=omega) only[go_sem,seval,reduceCtorEq,f,n,l,j,k1,k2])|with_reducible exact Ev.mk|apply cT|((first|apply aY|apply aQ)<;>intro d A<;>(simp(disch:=omega) only[go_sem,seval,reduceCtorEq,f,n,l,j,k1,k2,d])<;>clear d))
    exact o e _ rfl
   |false=>
    rw[u]at j e;repeat'(first|exact q|(simp(disch:=omega) only[go_sem,seval,reduceCtorEq,f,n,l,j,k1,k2])|with_reducible exact Ev.mk|apply cT|((first|apply aY|apply aQ)<;>intro d A<;>(simp(disch:=omega) only[go_sem,seval,reduceCtorEq,f,n,l,j,k1,k2,d])<;>clear d))
    refine fJ (aU ?_);refine ew ?_;exact t e
  .rw[pG c]at q;have e:sV g a[i]=false:=by unfold sV;rw[lR c];rfl
   refine gP (dS f n l) q (k1 ?_);exact o e _ rfl
def Wq(g:List Rq)(z E:Bool)(F:g.length<=8388608)(a:List Qu)(P:a.length<=8388608)(H:∀q∈a,q.reqs.length<=8388608)(K:Ex->St->Prop)
  (I:(∀j,j<a.length->(λi=>tU (a.map Qu.d) i&&((a.map Qu.d).getD i Q0).2.all (sV g)) j=true)->K (.exit 0) ⟨[],[],0,[0]⟩)
  (J:(∃j,j<a.length/\(λi=>tU (a.map Qu.d) i&&((a.map Qu.d).getD i Q0).2.all (sV g)) j=false)->∀k,ag k.env 2=some (.p (.bool false))->K .ret k):∀(m i:Nat),i+m=a.length->(∀j,j<i->(λi=>tU (a.map Qu.d) i&&((a.map Qu.d).getD i Q0).2.all (sV g)) j=true)->
  W tb xZ ⟨[(1,.ptr 0 0),(13,.p (.slice E (dL a))),(14,.p (.int .i64 a.length)),(15,.p (.int .i64 i))],[(0,.var false [.p (.slice z (bM g)),.p (.slice E (dL a))])],1,[0]⟩ (LK tb (.ghost .lower xZ) K):=by
 intro m;induction m with
 |zero=>
  rintro i L A;have e:¬(i:Int)<a.length:=ae;refine aH xZ.eq_1 ?_;refine gN e (k1 ?_);exact I (λj Q=>A j ae)
 |succ m M=>
  rintro i L A;have e:(i:Int)<a.length:=ae;have y:i<a.length:=ae;have l:(0:Int)<=i:=ae;have n:=kZ a i y;have t:=H _ (List.getElem_mem y);have q:=O8 a[i].reqs a[i].fl t;have gd:=Oq a i y;have u:((λi=>tU (a.map Qu.d) i&&((a.map Qu.d).getD i Q0).2.all (sV g)) i=false)->∀k,ag k.env 2=some (.p (.bool false))->K .ret k:=λh=>J ⟨i,y,h⟩
  have x:(tU (a.map Qu.d) i=true->a[i].reqs.all (sV g)=true->_):=λh N=>M (i+1) ae (Da A (by rw[h,gd,N];rfl))
  have d:tU (a.map Qu.d) i=false->∀k,ag k.env 2=some (.p (.bool false))->K .ret k:=λh=>u (by dsimp only;rw[h];rfl)
  have b:tU (a.map Qu.d) i=(lK a[i].key&&(decide (i=0)||slt ((a.map Qu.d).getD (i-1) Q0).1 a[i].key)&&decide (0<a[i].reqs.length)&&qN a[i].reqs):=by unfold tU;rw[gd]
  refine aH xZ.eq_1 ?_;cases f:lK a[i].key with
  |false=>
   refine gP (fW e n l f) (λ{v}=>fh v) (k1 ?_);exact d (by rw[b,f];rfl) _ rfl
  |true=>
   rw[f,Bool.true_and]at b;by_cases G:i=0
   .have k0:¬(0:Int)<(i:Int):=ae;rw[jl G,Bool.true_or,Bool.true_and]at b;by_cases B:a[i].reqs.length=0
    .have o:((a[i].reqs.length:Int)==0)=true:=by simp[B]
     refine gP (qF e n l f k0 o @aE) (bA (λ{v}=>fh v) q) (k1 ?_);exact d (by rw[b,lR ae];rfl) _ rfl
    .have o:((a[i].reqs.length:Int)==0)=false:=by rw[fy];omega
     rw[jl (by omega:0<a[i].reqs.length),Bool.true_and]at b;cases r:qN a[i].reqs with
     |false=>
      rw[r]at q;refine gP (qF e n l f k0 o @aE) (bA (λ{v}=>fh v) q) (k1 ?_);exact d (by rw[b,r]) _ rfl
     |true=>
      rw[r]at q;refine gP (qF e n l f k0 o @aE) (bA (λ{v}=>fh v) q) (k1 ?_);refine aU ?_;refine ew ?_;refine N9 g z F _ _ _ _ a[i].reqs a[i].fl t _ ?_ ?_ a[i].reqs.length 0 ae az
      .intro w;refine ew ?_;refine fJ (aU ?_);refine ew ?_;exact x (by rw[b,r]) w
      .intro w k C;refine ew ?_;exact u (by dsimp only;rw[gd,w,Bool.and_false]) k C
   .have k0:(0:Int)<(i:Int):=ae;have k1:(i:Int)-1=((i-1:Nat):Int):=ae;have s:=kZ a (i-1) ae;have O:=Oq a (i-1) ae;have k2:(0:Int)<=((i-1:Nat):Int):=ae;rw[O,lR G,Bool.false_or]at b;cases p:slt a[i-1].key a[i].key with
    |false=>
     repeat'(first|exact fh _|(simp(disch:=omega) only[go_sem,seval,reduceCtorEq,e,n,l,f,k0,k1,k2,s,p])|with_reducible exact Ev.mk|apply cT|((first|apply aY|apply aQ)<;>intro c D<;>(simp(disch:=omega) only[go_sem,seval,reduceCtorEq,e,n,l,f,k0,k1,k2,s,p,c])<;>clear c))
     exact d (by rw[b];simp[p]) _ rfl
    |true=>
     dsimp only at b;rw[p,Bool.true_and]at b;by_cases B:a[i].reqs.length=0
     .have o:((a[i].reqs.length:Int)==0)=true:=by simp[B]
      repeat'(first|exact fh _|exact q|(simp(disch:=omega) only[go_sem,seval,reduceCtorEq,e,n,l,f,k0,k1,k2,s,p,o,aE])|with_reducible exact Ev.mk|apply cT|((first|apply aY|apply aQ)<;>intro c D<;>(simp(disch:=omega) only[go_sem,seval,reduceCtorEq,e,n,l,f,k0,k1,k2,s,p,o,aE,c])<;>clear c))
      exact d (by rw[b,lR ae];rfl) _ rfl
     .have o:((a[i].reqs.length:Int)==0)=false:=by rw[fy];omega
      rw[jl (by omega:0<a[i].reqs.length),Bool.true_and]at b;cases r:qN a[i].reqs with
      |false=>
       rw[r]at q;repeat'(first|exact fh _|exact q|(simp(disch:=omega) only[go_sem,seval,reduceCtorEq,e,n,l,f,k0,k1,k2,s,p,o,aE])|with_reducible exact Ev.mk|apply cT|((first|apply aY|apply aQ)<;>intro c D<;>(simp(disch:=omega) only[go_sem,seval,reduceCtorEq,e,n,l,f,k0,k1,k2,s,p,o,aE,c])<;>clear c))
       exact d (by rw[b,r]) _ rfl
      |true=>
       rw[r]at q;repeat'(first|exact fh _|exact q|(simp(disch:=omega) only[go_sem,seval,reduceCtorEq,e,n,l,f,k0,k1,k2,s,p,o,aE])|with_reducible exact Ev.mk|apply cT|((first|apply aY|apply aQ)<;>intro c D<;>(simp(disch:=omega) only[go_sem,seval,reduceCtorEq,e,n,l,f,k0,k1,k2,s,p,o,aE,c])<;>clear c))
       refine aU ?_;refine ew ?_;refine N9 g z F _ _ _ _ a[i].reqs a[i].fl t _ ?_ ?_ a[i].reqs.length 0 ae az
       .intro w;refine ew ?_;refine fJ (aU ?_);refine ew ?_;exact x (by rw[b,r]) w
       .intro w k C;refine ew ?_;exact u (by dsimp only;rw[gd,w,Bool.and_false]) k C
def A2(t:Tb)(b:t.g.length<=8388608)(d:t.qs.length<=8388608)(e:∀q∈t.qs,q.reqs.length<=8388608):PS tb 40 [.agg (lT t)] (.bool (gn t.d)):=by
 refine bD (af:=a40) rfl rfl ?_;unfold a40;dsimp only[List.map,aI,ai,lT];have q:=O8 t.g t.gf b;have a:gn t.d=(qN t.g&&(List.range t.qs.length).all λi=>tU (t.qs.map Qu.d) i&&((t.qs.map Qu.d).getD i Q0).2.all (sV t.g)):=by
  unfold gn Tb.d;rw[List.length_map]
 cases c:qN t.g with
 |false=>
  rw[c]at q a;refine gP trivial q (k1 ?_);all_goals simp[aS,dep,a]
 |true=>
  rw[c]at q;rw[c,Bool.true_and]at a;refine gP @cE q (k1 ?_);refine aU ?_;refine ew ?_;refine Wq t.g t.gf t.qf b t.qs d e _ ?_ ?_ t.qs.length 0 ae az
  .intro f;rw[kd.2 f]at a;refine gN trivial (k1 ?_);all_goals simp[aS,dep,a]
  .rintro⟨j,g,h⟩ l k;rw[Bu g h]at a
   (try simp(disch:=omega) only[go_sem,seval,reduceCtorEq,k])
   simp[aS,dep,a]
end
section
open Go Go.Dv
end
section
open Go Go.Dv
def OY(l:List Qu):Prop:=l.Pairwise λx y=>slt x.key y.key=true
def vZ(a b:ByteArray):Int:=if slt a b then-1 else if slt b a then 1 else 0
def SP(a b:ByteArray):vZ a b<0↔slt a b=true:=by
 unfold vZ;split
 .rename_i h;simp[h]
 .rename_i h;split<;>simp[h]
def KQ(a b:ByteArray):vZ a b=0↔a=b:=by
 unfold vZ;split
 .rename_i h;simp[kf h]
 .rename_i h;split
  .rename_i c;simp[(kf c).symm]
  .rename_i c;simp[kq (by simpa using h) (by simpa using c)]
def Ke(q:Qu)(k:ByteArray):PS tb 76 [.agg (HN q),.str k] (.int .i64 (vZ q.key k)):=by
 refine bD (af:=a76) rfl rfl ?_;unfold a76;dsimp only[List.map,aI,ai,HN];unfold vZ;cases c:slt q.key k with
 |true=>
  exact gN c k0;all_goals simp[aS,dep]
 |false=>
  cases a:slt k q.key with
  |true=>
   exact gN (bA c a) k0;all_goals simp[aS,dep]
  |false=>
   exact gN (bA c a) k0;all_goals simp[aS,dep]
def NC(l:List Qu)(k:ByteArray)(b:Bool)(C:l.length<=8388608)(f:OY l)(K:Ex->St->Prop)
  (a:∀p,p<=l.length->(∀(x:Nat) (a:x<l.length),x<p->slt l[x].key k=true)->(∀(x:Nat) (a:x<l.length),p<=x->slt l[x].key k=false)->K (.exit 0) ⟨[(0,.p (.slice b (dL l))),(1,.p (.str k)),(2,.p (.func 76 [])),(8,.p (.int .i64 l.length)),(9,.p (.int .i64 p))],[],0,[0]⟩):
  ∀(m i j:Nat),j-i<=m->i<=j->j<=l.length->(∀(x:Nat) (a:x<l.length),x<i->slt l[x].key k=true)->(∀(x:Nat) (a:x<l.length),j<=x->slt l[x].key k=false)->
  W tb uZ ⟨[(0,.p (.slice b (dL l))),(1,.p (.str k)),(2,.p (.func 76 [])),(8,.p (.int .i64 l.length)),(9,.p (.int .i64 i)),(10,.p (.int .i64 j))],[],0,[0]⟩ (LK tb (.ghost .lower uZ) K):=by
 intro m;induction m with
 |zero=>
  intro i j c r g h n;obtain rfl:i=j:=ae;have d:¬(i:Int)<i:=ae;refine aH uZ.eq_1 ?_
  (try simp(disch:=omega) only[go_sem,seval,reduceCtorEq,d])
  exact a i g h n
 |succ m u=>
  intro i j c r g h n;by_cases B:i<j
  .have d:(i:Int)<j:=ae;have v:(i:Int)+(j:Int)=((i+j:Nat):Int):=ae;have w:=AE (i+j);have s:(i+j)/2<l.length:=ae;have y:=kZ l _ s;have z:(0:Int)<=(((i+j)/2:Nat):Int):=ae;have q:=Ke l[(i+j)/2] k;simp only[HN]at q;have A:=SP l[(i+j)/2].key k;refine aH uZ.eq_1 ?_;by_cases o:vZ l[(i+j)/2].key k<0
   .refine gP (qF d v w y z Go.IntWalk.u64_in o) q (k1 ?_);refine fJ (aU ?_);refine ew ?_;refine u ((i+j)/2+1) j ae ae g (λx a t=>?_) n;have c:=A.1 o;rcases bS x ((i+j)/2)with e|e
    .exact gM ((List.pairwise_iff_getElem.1 f) x _ a s e) c
    .have:x=(i+j)/2:=ae;subst this;exact c
   .refine gP (qF d v w y z Go.IntWalk.u64_in o) q (k1 ?_);refine fJ (aU ?_);refine ew ?_;refine u i ((i+j)/2) ae ae ae h (λx a t=>?_);have c:slt l[(i+j)/2].key k=false:=by
     cases f:slt l[(i+j)/2].key k with
     |false=>rfl
     |true=>exact absurd (A.2 f) o
    rcases bS ((i+j)/2) x with e|e
    .exact wI c (og ((List.pairwise_iff_getElem.1 f) _ x s a e))
    .have:x=(i+j)/2:=ae;subst this;exact c
  .obtain rfl:i=j:=ae;have d:¬(i:Int)<i:=ae;refine aH uZ.eq_1 ?_
   (try simp(disch:=omega) only[go_sem,seval,reduceCtorEq,d])
   exact a i g h n
def tx(l:List Qu)(k:ByteArray)(p:Nat):Bool:=match l[p]? with
 |some h=>decide (h.key=k)
 |none=>false
def Ti(l:List Qu)(k:ByteArray)(p:Nat):Prop:=p<=l.length/\(∀(x:Nat) (a:x<l.length),x<p->slt l[x].key k=true)/\(∀(x:Nat) (a:x<l.length),p<=x->slt l[x].key k=false)
def Lg(l:List Qu)(k:ByteArray)(b:Bool)(n:l.length<=8388608)(o:OY l):∃p:Nat,Ti l k p/\PS tb 75 [.slice b (dL l),.str k,.func 76 []] (.tuple [.int .i64 p,.bool (tx l k p)]):=by
 have w:W tb a75.body {env:=ai 0 ([PV.slice b (dL l),PV.str k,PV.func 76 []].map aI),heap:=[],next:=0,marks:=[0]} (eX a75.results λv s=>∃i:{p:Nat//Ti l k p},aS s.heap dep v=some (.tuple [.int .i64 i.1,.bool (tx l k i.1)])):=by
  unfold a75;dsimp only[List.map,aI,ai];refine gN @cE (k1 ?_);refine aU ?_;refine ew ?_;refine NC l k b n o _ ?_ l.length 0 l.length ae ae (Nat.le_refl _) (λx _ h=>ae) (λx _ h=>ae);intro p r t u;have a:Ti l k p:=⟨r,t,u⟩;by_cases d:p<l.length
  .have m:(p:Int)<l.length:=ae;have y:=kZ l _ d;have z:(0:Int)<=p:=ae;have q:=Ke l[p] k;simp only[HN]at q;have j:tx l k p=(vZ l[p].key k==0):=by
    unfold tx;rw[List.getElem?_eq_getElem d];have:=KQ l[p].key k;by_cases c:l[p].key=k
    .simp[c,KQ]
    .have A:¬vZ l[p].key k=0:=λe=>c (this.1 e)
     simp[c,A]
   generalize B:(vZ l[p].key k==0)=g at j;refine gP (fW m y z B) q (k1 ?_);all_goals exact⟨⟨p,a⟩,by simp[aS,dep,bP,j]⟩
  .have m:¬(p:Int)<l.length:=ae;have j:tx l k p=false:=by
    unfold tx;rw[List.getElem?_eq_none ae]
   refine gN m (k1 ?_);all_goals exact⟨⟨p,a⟩,by simp[aS,dep,bP,j]⟩
 obtain⟨i,C⟩:=jg (f:=75) rfl rfl w;exact⟨i.1,i.2,C⟩
def mj(l:List Rq)(b:Bool)(j:l.length<=8388608)(H:Heap)(a:Nat)(d:ag H a=none):BS tb 74 [.p (.slice b (bM l))] H a (.ref a l.length 0 l.length) ((a,.row false 2 (bM l))::H) (a+1):=by
 have e:(l.length:Int)<=((l.length+1:Nat):Int):=ae;have f:(l.length+1)*16<=140737488355328:=ae;have g:((l.length+1:Nat):Int)<=140737488355328:=ae;have h:(0:Int)<=l.length:=ae;have i:((l.length:Int)).toNat=l.length:=ae;refine wO (af:=Yt) rfl rfl ?_;unfold Yt;dsimp only[ai];repeat'(first|(simp(disch:=omega) only[go_sem,seval,reduceCtorEq,d,aE,e,f,g,h,i,an,List.length_replicate,zE,j4,sg,List.drop_replicate,HM])|with_reducible exact Ev.mk|((first|apply aY|apply aQ)<;>intro c k<;>(simp(disch:=omega) only[go_sem,seval,reduceCtorEq,d,aE,e,f,g,h,i,an,List.length_replicate,zE,j4,sg,List.drop_replicate,HM,c])<;>clear c))
end
section
open Go Go.Dv
def cZ(b:List Qd)(a:List Nat):List (List DV):=List.zipWith (λq i=>[.p (.str q.1),.ref i q.2.length 0 q.2.length]) b a
def pT{b:List Qd}{a:List Nat}(h:a.length=b.length):(cZ b a).length=b.length:=by simp[cZ,h]
def Bj{b:List Qd}{a:List Nat}{j:Nat}{q:Qd}{i:Nat}(c:b[j]?=some q)(d:a[j]?=some i):(cZ b a)[j]?=some [.p (.str q.1),.ref i q.2.length 0 q.2.length]:=by
 simp[cZ,List.getElem?_zipWith,c,d]
def GM{b:List Qd}{a:List Nat}(h:a.length=b.length)(q:Qd)(i:Nat):cZ b a++[[.p (.str q.1),.ref i q.2.length 0 q.2.length]]=cZ (b++[q]) (a++[i]):=by
 unfold cZ;rw[List.zipWith_append h.symm];rfl
structure mS(H:Heap)(nx ga qa:Nat)(g:List Rq)(qs:List Qd)(ids:List Nat):Prop where
 gl:ag H ga=some (.row false 2 (bM g))
 ql:ag H qa=some (.aV false 2 (cZ qs ids))
 len:ids.length=qs.length
 at_:∀(j i:Nat) (q:Qd),ids[j]?=some i->qs[j]?=some q->ag H i=some (.row false 2 (bM q.2))
 nd:ids.Nodup
 ng:ga∉ids
 nq:qa∉ids
 gq:ga≠qa
 AH:ga<nx
 Aj:qa<nx
 lt:∀i∈ids,i<nx
 free:∀k,nx<=k->ag H k=none
def mS.congr{H H':Heap}{nx nx' ga qa:Nat}{g:List Rq}{qs:List Qd}{ids:List Nat}(h:mS H nx ga qa g qs ids)(hH:∀k,k=ga\/k=qa\/k∈ids->ag H' k=ag H k)(hn:nx<=nx')(hf:∀k,nx'<=k->ag H' k=none):mS H' nx' ga qa g qs ids where
 gl:=by rw[hH _ (.inl rfl),h.gl]
 ql:=by rw[hH _ (.inr (.inl rfl)),h.ql]
 len:=h.len
 at_:=λj i q a b=>by rw[hH _ (.inr (.inr (List.mem_of_getElem? a))),h.at_ j i q a b]
 nd:=h.nd
 ng:=h.ng
 nq:=h.nq
 gq:=h.gq
 AH:=by have:=h.AH;omega
 Aj:=by have:=h.Aj;omega
 lt:=λi hi=>by have:=h.lt i hi;omega
 free:=hf
def mS.snoc{H H':Heap}{nx nx' ga qa n1:Nat}{g:List Rq}{qs:List Qd}{ids:List Nat}(h:mS H nx ga qa g qs ids)(q:Qd)(hn1:nx<=n1)(hn:n1<nx')
  (hq:ag H' qa=some (.aV false 2 (cZ (qs++[q]) (ids++[n1]))))(h1:ag H' n1=some (.row false 2 (bM q.2)))(hH:∀k,k=ga\/k∈ids->ag H' k=ag H k)(hf:∀k,nx'<=k->ag H' k=none):mS H' nx' ga qa g (qs++[q]) (ids++[n1]) where
 gl:=by rw[hH _ (.inl rfl),h.gl]
 ql:=hq
 len:=by simp[h.len]
 at_:=λj i q' a b=>by
  rcases bS j ids.length with c|c
  .rw[List.getElem?_append_left c]at a;rw[List.getElem?_append_left (by rw[<-h.len];exact c)]at b;rw[hH _ (.inr (List.mem_of_getElem? a)),h.at_ j i q' a b]
  .rw[List.getElem?_append_right c]at a;rw[List.getElem?_append_right (by rw[<-h.len];exact c)]at b;have e:j-ids.length=0:=by
    rcases pO (j-ids.length)with e|e
    .exact e
    .rw[List.getElem?_eq_none (by simp;omega)]at a;cases a
   rw[e]at a;rw[<-h.len,e]at b;simp at a b;subst a;subst b;exact h1
 nd:=by
  rw[List.nodup_append];refine⟨h.nd,az,λa ha b hb=>?_⟩;have:=h.lt a ha;simp at hb;omega
 ng:=by
  have:=h.AH;rw[List.mem_append,List.mem_singleton];rintro(e|e)
  .exact h.ng e
  .omega
 nq:=by
  have:=h.Aj;rw[List.mem_append,List.mem_singleton];rintro(e|e)
  .exact h.nq e
  .omega
 gq:=h.gq
 AH:=by have:=h.AH;omega
 Aj:=by have:=h.Aj;omega
 lt:=λi hi=>by
  rcases List.mem_append.1 hi with e|e
  .have:=h.lt i e;omega
  .simp at e;omega
 free:=hf
def nc(a:List Qu)(i:Nat)(h:i<a.length):(a.take (i+1)).map Qu.d=(a.take i).map Qu.d++[(a[i].key,a[i].reqs)]:=by
 rw[List.take_add_one,List.getElem?_eq_getElem h];simp only[Option.toList,List.map_append,List.map_cons,List.map_nil,Qu.d]
def cj{a b:Nat}(h:a≠b):(a==b)=false:=by simpa using h
def rI{H:Heap}{a b c d e k:Nat}{X Y V Z:bq}(f:k≠a)(g:k≠b)(h:k≠c)(i:k≠d)(j:k≠e):ag ((a,V)::(b,Z)::jJ (aC (aC H d X) e Y) c) k=ag H k:=by
 rw[aw,ak (dz f),aw,ak (dz g),eC,ak (dz h),aA,ak (dz j),aA,ak (dz i)]
def aaM{H:Heap}{a b c d e:Nat}{X Y V Z B:bq}(f:ag H d=some B)(g:d≠a)(h:d≠b)(i:d≠c)(j:d≠e):ag ((a,V)::(b,Z)::jJ (aC (aC H d X) e Y) c) d=some X:=by
 rw[aw,ak (dz g),aw,ak (dz h),eC,ak (dz i),aA,ak (dz j),aA,aq rfl,f];rfl
def aaK{H:Heap}{a b c d e:Nat}{X Y V Z B:bq}(f:ag H e=some B)(g:e≠a)(h:e≠b)(i:e≠c)(j:e≠d):ag ((a,V)::(b,Z)::jJ (aC (aC H d X) e Y) c) e=some Y:=by
 rw[aw,ak (dz g),aw,ak (dz h),eC,ak (dz i),aA,aq rfl,aA,ak (dz j),f];rfl
def aaQ{H:Heap}{a b c d e:Nat}{X Y V Z:bq}(f:b≠a):ag ((a,V)::(b,Z)::jJ (aC (aC H d X) e Y) c) b=some Z:=by
 rw[aw,ak (dz f),aw,aq rfl]
def SU(d:List Qu)(qf:Bool)(hl:d.length<=8388608)(hq:∀q∈d,q.reqs.length<=8388608)(g:List Rq)(f p h o c:Nat)(N:Heap)(w:f≠p/\f≠h/\f≠o/\o≠p/\o≠h)(K:Ex->St->Prop)
  (hx:∀(H:Heap) (a:Nat) (b:List Nat),mS H a p h g (d.map Qu.d) b->ag H f=some (.var false [.ref p g.length 0 g.length,.ref h d.length 0 d.length])->ag H o=some (.var false [.p (.slice true []),.p (.slice true [])])->
   f∉b->o∉b->f<a->o<a->c<=a->(∀k,k<c->ag H k=ag N k)->(∀i∈b,c<=i)->K (.exit 0) ⟨[(2,.ptr o 0),(3,.ptr f 0)],H,a,[c]⟩):
  ∀(m i:Nat),i+m=d.length->∀(H:Heap) (a:Nat) (b:List Nat),mS H a p h g ((d.take i).map Qu.d) b->ag H f=some (.var false [.ref p g.length 0 g.length,.ref h i 0 i])->ag H o=some (.var false [.p (.slice true []),.p (.slice true [])])->
   f∉b->o∉b->f<a->o<a->c<=f->c<=h->c<=a->(∀k,k<c->ag H k=ag N k)->(∀i∈b,c<=i)->
  W tb zM ⟨[(2,.ptr o 0),(3,.ptr f 0),(11,.p (.slice qf (dL d))),(12,.p (.int .i64 d.length)),(13,.p (.int .i64 i))],H,a,[c]⟩ (LK tb (.ghost (.free [1,5]) zM) K):=by
 intro m;induction m with
 |zero=>
  rintro i hi H a b n r s A B O P Q R S C t;have x:¬(i:Int)<d.length:=ae;have e:i=d.length:=ae;rw[List.take_of_length_le ae]at n;rw[e]at r x⊢;refine aH zM.eq_1 ?_;refine gN x (k1 ?_);exact hx H a b n r s A B O P S C t
 |succ m ih=>
  rintro i hi H a b n r s A B O P Q R S C t;have x:(i:Int)<d.length:=ae;have D:i<d.length:=ae;have T:(0:Int)<=i:=ae;have U:=kZ d i D;have E:=hq _ (List.getElem_mem D);have u:=n.ql;have y:((d.take i).map Qu.d).length=i:=by simp;omega
  have z:=pT n.len;rw[y]at z;have V:=n.free a (Nat.le_refl _);have F:=n.free (a+1) ae;have Y:=n.free (a+1+1) ae;have xd:=n.Aj;have xe:=n.AH;have Z:=cj (show a≠f by omega);have b2:=cj (show a≠h by omega);have b3:=cj (show a+1≠f by omega);have b4:=cj (show a+1≠h by omega);have b5:=cj (show a+1+1≠f by omega);have b6:=cj (show a+1+1≠h by omega);have G:=cj (show a≠a+1 by omega);have b8:=cj (show a≠a+1+1 by omega);have I:=cj (show a+1≠a by omega);have J:=cj (show a+1+1≠a by omega);have c2:=cj (show h≠f by have:=w.2.1;omega);have c3:=cj (show h≠a by omega);refine aH zM.eq_1 ?_
  (try simp(disch:=omega) only[go_sem,seval,reduceCtorEq,x,U,T,V,F,Y,r,Z,b2,b3,b4,b5,b6,G,b8,I,J,c2,c3])
  refine Mj (l:=[.p (.slice d[i].fl (bM d[i].reqs))]) rfl ?_ (mj _ _ E _ _ ?_) ⟨⟨_,_,_,rfl⟩,_,rfl⟩ rfl ?_
  ·((try simp(disch:=omega) only[go_sem,seval,reduceCtorEq])<;>with_reducible exact rfl)
  ·((try simp(disch:=omega) only[go_sem,seval,reduceCtorEq,G,F])<;>with_reducible exact rfl)
  have m1:(i+1)*40<=140737488355328:=ae;have m2:i+1<=140737488355328:=ae;have d1:(h≠a+1+1)=True:=bU ae;have L:∀X,ag (aC H h X) f=some (.var false [.ref p g.length 0 g.length,.ref h i 0 i]):=λX=>by rw[aA,ak (λe=>w.2.1 e.symm)];exact r
  have e1:(a+1!=f)=true:=by simp;omega
  have e2:(a+1!=a)=true:=az;have e3:(a+1+1!=f)=true:=by simp;omega
  have xl:∀X,ag (aC H h X) h=some X:=λX=>by rw[aA,aq rfl,u];rfl
  (try simp(disch:=omega) only[go_sem,seval,reduceCtorEq,x,U,T,V,F,Y,r,u,z,L,d1,m1,m2,an,Z,b2,b3,b4,b5,b6,G,b8,I,J,c2,c3,e1,e2,e3])
  refine fJ (aU ?_)
  (try simp(disch:=omega) only[go_sem,seval,reduceCtorEq,I,J])
  have M:=n.lt;refine ih (i+1) ae _ _ (b++[a+1]) ?_ (aaK r ae ae ae ae) ?_ ?_ ?_ ae ae Q R ae ?_ ?_
  .rw[nc d i D];refine n.snoc (d[i].key,d[i].reqs) ae ae ?_ (aaQ ae) ?_ ?_
   .rw[<-GM n.len];exact aaM u ae ae ae ae
   .rintro k (rfl|v)
    .exact rI ae ae ae n.gq ae
    .have:=M k v;exact rI ae ae ae (λe=>n.nq (e▸v)) (λe=>A (e▸v))
   .intro k v;rw[rI ae ae ae ae ae];exact n.free k ae
  .rw[rI ae ae ae ae ae];exact s
  .rw[List.mem_append,List.mem_singleton];rintro(e|e)
   .exact A e
   .omega
  .rw[List.mem_append,List.mem_singleton];rintro(e|e)
   .exact B e
   .omega
  .intro k v;rw[rI ae ae ae ae ae];exact C k v
  .intro j hj;rcases List.mem_append.1 hj with e|e
   .exact t j e
   .simp at e;omega
def YF{H:Heap}{a b n:Nat}{X Y:bq}(h:ag H n=none)(c:n≠a)(d:n≠b):ag ((a,X)::(b,Y)::H) n=none:=by
 rw[aw,ak (dz c),aw,ak (dz d)];exact h
def DL(t:Tb)(g:t.g.length<=8388608)(hl:t.qs.length<=8388608)(hq:∀q∈t.qs,q.reqs.length<=8388608)(R:Heap)(c:Nat)(S:∀k,c<=k->ag R k=none):
  ∃(V Y:Nat) (K:List Nat) (H:Heap) (U:Nat),BS tb 43 [.agg [.p (.slice t.gf (bM t.g)),.p (.slice t.qf (dL t.qs))]] R c (.agg [.ref V t.g.length 0 t.g.length,.ref Y t.qs.length 0 t.qs.length]) H U/\
   mS H U V Y t.g t.d.2 K/\(∀k,k<c->ag H k=ag R k)/\c<=V/\c<=Y/\(∀i∈K,c<=i):=by
 have w:W tb Ur.body {env:=ai 0 [.agg [.p (.slice t.gf (bM t.g)),.p (.slice t.qf (dL t.qs))]],heap:=R,next:=c,marks:=[c]}
   (eX Ur.results λv s=>∃q:Nat×Nat×List Nat×Heap×Nat,v=.agg [.ref q.1 t.g.length 0 t.g.length,.ref q.2.1 t.qs.length 0 t.qs.length]/\s.heap=q.2.2.2.1/\s.next=q.2.2.2.2/\
    (mS q.2.2.2.1 q.2.2.2.2 q.1 q.2.1 t.g t.d.2 q.2.2.1/\(∀k,k<c->ag q.2.2.2.1 k=ag R k)/\c<=q.1/\c<=q.2.1/\(∀i∈q.2.2.1,c<=i))):=by
  unfold Ur;dsimp only[ai];have d:=cj (show c≠c+1 by omega);have l:=cj (show c≠c+1+1 by omega);have m:=cj (show c≠c+1+1+1 by omega);have n:=cj (show c≠c+1+1+1+1 by omega);have o:=cj (show c+1≠c by omega);have p:=cj (show c+1≠c+1+1 by omega);have r:=cj (show c+1≠c+1+1+1 by omega);have u:=cj (show c+1≠c+1+1+1+1 by omega);have x:=cj (show c+1+1≠c by omega);have y:=cj (show c+1+1≠c+1 by omega);have z:=cj (show c+1+1≠c+1+1+1 by omega);have A:=cj (show c+1+1≠c+1+1+1+1 by omega);have B:=cj (show c+1+1+1≠c by omega);have C:=cj (show c+1+1+1≠c+1 by omega);have D:=cj (show c+1+1+1≠c+1+1 by omega);have E:=cj (show c+1+1+1≠c+1+1+1+1 by omega);have F:=cj (show c+1+1+1+1≠c by omega);have G:=cj (show c+1+1+1+1≠c+1 by omega);have I:=cj (show c+1+1+1+1≠c+1+1 by omega);have J:=cj (show c+1+1+1+1≠c+1+1+1 by omega);have M:=S (c) ae;have N:=S (c+1) ae;have L:=S (c+1+1) ae;have O:=S (c+1+1+1) ae;have P:=S (c+1+1+1+1) ae;repeat'(first|exact mj t.g t.gf g _ _ (YF L ae ae)|(simp(disch:=omega) only[go_sem,seval,reduceCtorEq,M,N,L,O,P,bT,cZ,List.set_cons_succ,List.set_cons_zero,cE,d,l,m,n,o,p,r,u,x,y,z,A,B,C,D,E,F,G,I,J])|with_reducible exact Ev.mk|refine pw ?_|apply nf|(refine ct (by first|with_reducible exact Ev.mk|(simp(disch:=omega) only[go_sem,seval,reduceCtorEq,M,N,L,O,P,bT,cZ,List.set_cons_succ,List.set_cons_zero,cE,d,l,m,n,o,p,r,u,x,y,z,A,B,C,D,E,F,G,I,J];done)|(simp(disch:=omega) only[go_sem,seval,reduceCtorEq,M,N,L,O,P,bT,cZ,List.set_cons_succ,List.set_cons_zero,cE,d,l,m,n,o,p,r,u,x,y,z,A,B,C,D,E,F,G,I,J];with_reducible exact Ev.mk)) (by first|with_reducible exact Ev.mk|(simp(disch:=omega) only[go_sem,seval,reduceCtorEq,M,N,L,O,P,bT,cZ,List.set_cons_succ,List.set_cons_zero,cE,d,l,m,n,o,p,r,u,x,y,z,A,B,C,D,E,F,G,I,J];done)|(simp(disch:=omega) only[go_sem,seval,reduceCtorEq,M,N,L,O,P,bT,cZ,List.set_cons_succ,List.set_cons_zero,cE,d,l,m,n,o,p,r,u,x,y,z,A,B,C,D,E,F,G,I,J];with_reducible exact Ev.mk)) (mj t.g t.gf g _ _ (YF L ae ae)) (by first|with_reducible exact Ev.mk|(simp(disch:=omega) only[go_sem,seval,reduceCtorEq,M,N,L,O,P,bT,cZ,List.set_cons_succ,List.set_cons_zero,cE,d,l,m,n,o,p,r,u,x,y,z,A,B,C,D,E,F,G,I,J];done)|(simp(disch:=omega) only[go_sem,seval,reduceCtorEq,M,N,L,O,P,bT,cZ,List.set_cons_succ,List.set_cons_zero,cE,d,l,m,n,o,p,r,u,x,y,z,A,B,C,D,E,F,G,I,J];with_reducible exact Ev.mk)) ?_)|(refine cW (by first|with_reducible exact Ev.mk|(simp(disch:=omega) only[go_sem,seval,reduceCtorEq,M,N,L,O,P,bT,cZ,List.set_cons_succ,List.set_cons_zero,cE,d,l,m,n,o,p,r,u,x,y,z,A,B,C,D,E,F,G,I,J];done)|(simp(disch:=omega) only[go_sem,seval,reduceCtorEq,M,N,L,O,P,bT,cZ,List.set_cons_succ,List.set_cons_zero,cE,d,l,m,n,o,p,r,u,x,y,z,A,B,C,D,E,F,G,I,J];with_reducible exact Ev.mk)) (mj t.g t.gf g _ _ (YF L ae ae)) ?_)|((first|apply aY|apply aQ)<;>intro Z hb<;>(simp(disch:=omega) only[go_sem,seval,reduceCtorEq,M,N,L,O,P,bT,cZ,List.set_cons_succ,List.set_cons_zero,cE,d,l,m,n,o,p,r,u,x,y,z,A,B,C,D,E,F,G,I,J,Z])<;>clear Z))
  refine aU ?_
  (try simp(disch:=omega) only[go_sem,seval,reduceCtorEq,d,l,m,n,o,p,r,u,x,y,z,A,B,C,D,E,F,G,I,J])
  refine SU t.qs t.qf hl hq t.g (c+1+1+1) (c+1+1) (c+1+1+1+1) (c+1) c R ae _ ?_ t.qs.length 0 ae _ _ [] ?_ ?_ ?_ az az ae ae ae ae ae ?_ az
  .intro H U K hT hv x0 n1 n2 l1 l2 l3 hb hi;have x1:∀X,ag (aC H (c+1) X) (c+1+1+1)=some (.var false [.ref (c+1+1) t.g.length 0 t.g.length,.ref (c+1+1+1+1) t.qs.length 0 t.qs.length]):=λX=>by rw[aA,ak ae];exact hv
   have x2:∀X,ag (jJ (aC H (c+1) X) (c+1+1+1)) (c+1)=some X:=λX=>by rw[eC,ak ae,aA,aq rfl,x0];rfl
   refine gN (Cj hv<|Cj x0<|Cj x1<|Cj x2<|Cj d<|Cj l<|Cj m<|Cj n<|Cj o<|Cj p<|Cj r<|Cj u<|Cj x<|Cj y<|Cj z<|Cj A<|Cj B<|Cj C<|Cj D<|Cj E<|Cj F<|Cj G<|Cj I<|J) (k1 ?_);refine⟨(c+1+1,c+1+1+1+1,K,_,U),rfl,rfl,rfl,?_,?_,by simp only;omega,by simp only;omega,hi⟩
   .refine hT.congr (λk Q=>?_) (Nat.le_refl _) (λk Q=>?_)
    .have h1:c+1+1+1≠k:=by
      rintro rfl;rcases Q with e|e|e
      .omega
      .omega
      .exact n1 e
     have h2:c+1≠k:=by
      rintro rfl;rcases Q with e|e|e
      .omega
      .omega
      .exact n2 e
     rw[eC,ak h1,aA,ak h2]
    .simp only at Q⊢;rw[eC,ak ae,aA,ak ae];exact hT.free k Q
   .intro k Q;simp only;rw[eC,ak ae,aA,ak ae];exact hb k Q
  .refine⟨?_,?_,rfl,?_,az,az,az,ae,ae,ae,az,λk Q=>?_⟩
   ·((try simp(disch:=omega) only[go_sem,seval,reduceCtorEq,d,l,m,n,o,p,r,u,x,y,z,A,B,C,D,E,F,G,I,J])<;>with_reducible exact rfl)
   ·(try simp only[List.take_zero,List.map_nil]);simp only[cZ,List.zipWith_nil_left]
    ((try simp(disch:=omega) only[go_sem,seval,reduceCtorEq,d,l,m,n,o,p,r,u,x,y,z,A,B,C,D,E,F,G,I,J])<;>with_reducible exact rfl)
   .intro j i q a b;simp at a
   .rw[aw,ak ae,aw,ak ae,aw,ak ae,aw,ak ae,eC];split
    .rfl
    .exact S k ae
  ·((try simp(disch:=omega) only[go_sem,seval,reduceCtorEq,d,l,m,n,o,p,r,u,x,y,z,A,B,C,D,E,F,G,I,J])<;>with_reducible exact rfl)
  ·((try simp(disch:=omega) only[go_sem,seval,reduceCtorEq,d,l,m,n,o,p,r,u,x,y,z,A,B,C,D,E,F,G,I,J])<;>with_reducible exact rfl)
  .intro k Q;rw[aw,ak ae,aw,ak ae,aw,ak ae,aw,ak ae,eC,ak ae]
 obtain⟨⟨V,Y,K,H,U⟩,h,hp⟩:=G9 (T:=tb) (f:=43) (af:=Ur) (ι:=Nat×Nat×List Nat×Heap×Nat) rfl rfl w;exact⟨V,Y,K,H,U,h,hp⟩
end
end Go.Dv.Tryz
