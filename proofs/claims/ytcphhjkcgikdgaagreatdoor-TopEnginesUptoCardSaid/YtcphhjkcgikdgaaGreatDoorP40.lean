/- Lemmas for the law of this claim. -/
import Derived.Test.YtcphhjkcgikdgaaGreatDoorP39
set_option linter.all false
set_option maxRecDepth 100000
set_option maxHeartbeats 4000000
namespace Go.Dv.Tryz
section
open Go Go.Dv
def mL(l:List Int)(i:Nat)(h:i<l.length):l.getD i (0:Int)=l[i]:=by simp[List.getD_eq_getElem?_getD,h]
def cB(l:List Int):(aJ l).length=l.length:=by simp[aJ]
def kx(l:List Int)(i:Nat)(h:i<l.length):(aJ l)[i]?=some [.int .i64 l[i]]:=by simp[aJ,h]
def pZ(l:List Int)(n:Nat):(aJ l).take n=aJ (l.take n):=by simp[aJ,List.map_take]
def Eb(l:List Int)(n:Nat):(aJ l).drop n=aJ (l.drop n):=by simp[aJ,List.map_drop]
def oy(a b:List Int):aJ a++aJ b=aJ (a++b):=by simp[aJ]
def EY(l:List Int)(i:Nat)(v:Int):(aJ l).set i [.int .i64 v]=aJ (l.set i v):=by simp[aJ,List.map_set]
def ES(n:Nat)(v:Int):List.replicate n [PV.int .i64 v]=aJ (List.replicate n v):=by simp[aJ]
def rn(v:Int):[[PV.int .i64 v]]=aJ [v]:=rfl
def vF(l:List Int):Nat->List Int
 |0=>[]
 |n+1=>vF l n++if n=0\/l.getD n (0:Int)≠l.getD (n-1) (0:Int)then[l.getD n (0:Int)]else[]
def vr(l:List Int):∀n,n<=l.length->(∀j,0<j->j<n->l.getD j (0:Int)≠l.getD (j-1) (0:Int))->vF l n=l.take n
 |0,_,_=>by simp[vF]
 |n+1,h,b=>by
  rw[vF,vr l n ae λj a c=>b j a ae,aq,List.take_add_one,List.getElem?_eq_getElem ae,mL l n ae]
  .rfl
  .rcases pO n with a|a
   .exact .inl a
   .exact .inr (b n a ae)
def Kd{x:Int}(l:List Int):∀n,n<=l.length->(x∈vF l n↔x∈l.take n)
 |0,_=>by simp[vF]
 |n+1,h=>by
  have c:=Kd (x:=x) l n ae;rw[vF,List.take_add_one,List.getElem?_eq_getElem ae,List.mem_append,List.mem_append,c];simp only[Option.toList_some,List.mem_singleton];split
  .rw[List.mem_singleton,mL l n ae]
  .rename_i b;simp only[not_or,Decidable.not_not,tK]at b;rw[mL l n ae,mL l (n-1) ae]at b;constructor
   .rintro(a|a)
    .exact .inl a
    .cases a
   .rintro(a|rfl)
    .exact .inl a
    .left;rw[b.2];exact List.mem_iff_getElem.2 ⟨n-1,by simp;omega,by rw[List.getElem_take]⟩
def WN(l:List Int)(E:l.length<=17592186044416)(k0:Nat)(v:1<=k0)(w:k0<l.length)(K:Ex->St->Prop)
  (x:∀(a:List Int) (k:Nat),a.length=l.length->k<=l.length->a.take k=vF l l.length->K (.exit 2) ⟨[(0,.ref 1 l.length 0 l.length),(3,.p (.int .i64 k))],[(1,.row false 1 (aJ a))],2,[2]⟩):
  ∀(m k2:Nat),k2+m=l.length-k0->1<=k2->∀(a:List Int) (k:Nat),a.length=l.length->k+1<=k0+k2->a.take k=vF l (k0+k2)->(∀j,k0+k2<=j+1->a.getD j (0:Int)=l.getD j (0:Int))->
  W tb yO ⟨[(0,.ref 1 l.length 0 l.length),(3,.p (.int .i64 k)),(4,.ref 1 l.length k0 (l.length-k0)),(5,.p (.int .i64 k2))],[(1,.row false 1 (aJ a))],2,[2]⟩ (LK tb yO K):=by
 intro m;induction m with
 |zero=>
  intro k2 y z a k b A f e;have g:¬(k2:Int)<((l.length-k0:Nat):Int):=ae;have i:k0+(l.length-k0)<=l.length:=ae;refine aH yO.eq_1 ?_
  (try simp(disch:=omega) only[go_sem,seval,reduceCtorEq,g,i,cB,b])
  exact x a k b ae (by rw[f];congr 1;omega)
 |succ m o=>
  intro k2 y z a k b A f e;have g:(k2:Int)<((l.length-k0:Nat):Int):=ae;have i:k0+(l.length-k0)<=l.length:=ae;have p:(0:Int)<=k2:=ae;have q:(k2:Int)-1=((k2-1:Nat):Int):=ae;have r:((k2-1:Nat):Int)<((l.length-k0:Nat):Int):=ae;have s:(0:Int)<=((k2-1:Nat):Int):=ae;have F:k0+k2<l.length:=ae;have t:(aJ a)[k0+k2]?=some [.int .i64 (l.getD (k0+k2) (0:Int))]:=by
   rw[<-e (k0+k2) ae,kx a _ ae,mL a _ ae]
  have u:(aJ a)[k0+(k2-1)]?=some [.int .i64 (l.getD (k0+k2-1) (0:Int))]:=by
   rw[<-e (k0+k2-1) ae,kx a _ ae,mL a _ ae];congr 4;omega
  have B:=kx a k ae;have C:(k:Int)<(l.length:Int):=ae;have D:(0:Int)<=k:=ae;have c:vF l (k0+k2+1)=vF l (k0+k2)++if k0+k2=0\/l.getD (k0+k2) (0:Int)≠l.getD (k0+k2-1) (0:Int)then[l.getD (k0+k2) (0:Int)]else[]:=rfl
  refine aH yO.eq_1 ?_;by_cases n:l.getD (k0+k2) (0:Int)=l.getD (k0+k2-1) (0:Int)
  .have d:(l.getD (k0+k2) (0:Int)==l.getD (k0+k2-1) (0:Int))=true:=by simpa using n
   rw[ak (λh=>h.elim (λh=>ae) (λh=>h n)),List.append_nil]at c
   (try simp(disch:=omega) only[go_sem,seval,reduceCtorEq,g,i,p,q,r,s,t,u,b,cB,d,bne,Bool.not_true,Bool.not_false])
   refine fJ (aU ?_);exact o (k2+1) ae ae a k b ae (by rw[f,<-c];rfl) (λj h=>e j ae)
  .have d:(l.getD (k0+k2) (0:Int)==l.getD (k0+k2-1) (0:Int))=false:=by simpa using n
   rw[aq (.inr n)]at c
   (try simp(disch:=omega) only[go_sem,seval,reduceCtorEq,g,i,p,q,r,s,t,u,B,C,D,b,cB,d,bne,Bool.not_true,Bool.not_false,EY])
   refine fJ (aU ?_);refine o (k2+1) ae ae (a.set k (l.getD (k0+k2) (0:Int))) (k+1) (by simp[b]) ae ?_ (λj h=>?_)
   .rw[show k0+(k2+1)=k0+k2+1 from rfl,c,<-f,List.take_add_one,List.getElem?_eq_getElem (by simp;omega),List.take_set_of_le (Nat.le_refl _)];simp
   .rw[<-e j ae,List.getD_eq_getElem?_getD,List.getElem?_set_ne ae,List.getD_eq_getElem?_getD]
def H7(l:List Int)(E:l.length<=17592186044416):∃q:List Int×Nat,BS tb 93 [.ref 1 l.length 0 l.length] [(1,.row false 1 (aJ l))] 2 (.ref 1 l.length 0 q.2) [(1,.row false 1 (aJ q.1))] 2/\q.1.length=l.length/\q.2<=l.length/\q.1.take q.2=vF l l.length:=by
 refine G9 (ι:=List Int×Nat) (af:=a93) rfl (r:=λq=>.ref 1 l.length 0 q.2) (H':=λq=>[(1,.row false 1 (aJ q.1))]) (nx':=λ_=>2) rfl ?_;unfold a93;dsimp only[ai];by_cases O:l.length<2
 .have n:(l.length:Int)<2:=ae
  (try simp(disch:=omega) only[go_sem,seval,reduceCtorEq,n,cB])
  have c:=(vr l _ (Nat.le_refl _) λj n g=>ae).symm;exact⟨(l,l.length),by simp[c]⟩
 .have n:¬(l.length:Int)<2:=ae
  (try simp(disch:=omega) only[go_sem,seval,reduceCtorEq,n,cB])
  refine aU ?_;have s:∀(K:Ex->St->Prop),((∀j,0<j->j<l.length->l.getD j (0:Int)≠l.getD (j-1) (0:Int))->K (.exit 0) ⟨[(0,.ref 1 l.length 0 l.length)],[(1,.row false 1 (aJ l))],2,[2]⟩)->
    (∀(a:List Int) (k:Nat),a.length=l.length->k<=l.length->a.take k=vF l l.length->K .ret ⟨[(2,.ref 1 l.length 0 k)],[(1,.row false 1 (aJ a))],2,[2]⟩)->
    ∀(m k:Nat),k+m=l.length->1<=k->(∀j,0<j->j<k->l.getD j (0:Int)≠l.getD (j-1) (0:Int))->
    W tb zN ⟨[(0,.ref 1 l.length 0 l.length),(3,.p (.int .i64 k))],[(1,.row false 1 (aJ l))],2,[2]⟩ (LK tb zN K):=by
   intro K F G m;induction m with
   |zero=>
    intro k H o f;have g:¬(k:Int)<l.length:=ae;refine aH zN.eq_1 ?_
    (try simp(disch:=omega) only[go_sem,seval,reduceCtorEq,g,cB])
    exact F (λj h v=>f j h ae)
   |succ m I=>
    intro k H o f;have g:(k:Int)<l.length:=ae;have w:(0:Int)<=k:=ae;have x:(k:Int)-1=((k-1:Nat):Int):=ae;have y:((k-1:Nat):Int)<l.length:=ae;have z:(0:Int)<=((k-1:Nat):Int):=ae;have A:(aJ l)[k]?=some [.int .i64 (l.getD k (0:Int))]:=by rw[kx l _ ae,mL l _ ae]
    have B:(aJ l)[k-1]?=some [.int .i64 (l.getD (k-1) (0:Int))]:=by rw[kx l _ ae,mL l _ ae]
    refine aH zN.eq_1 ?_;by_cases p:l.getD k (0:Int)=l.getD (k-1) (0:Int)
    .have d:(l.getD k (0:Int)==l.getD (k-1) (0:Int))=true:=by simpa using p
     have J:(k:Int)<=l.length:=ae
     (try simp(disch:=omega) only[go_sem,seval,reduceCtorEq,g,w,x,y,z,A,B,J,cB,d,bne,Bool.not_true,Bool.not_false])
     refine aU ?_;have t:=vr l k ae f;have i:vF l (k+1)=vF l k++if k=0\/l.getD k (0:Int)≠l.getD (k-1) (0:Int)then[l.getD k (0:Int)]else[]:=rfl
     rw[ak (λh=>h.elim (λh=>ae) (λh=>h p)),List.append_nil]at i;refine WN l E k o ae _ ?_ (l.length-k-1) 1 ae (Nat.le_refl _) l k rfl (Nat.le_refl _) (by rw[i,t]) (λ_ _=>rfl);intro a b e u c;have L:(0:Int)<=b:=ae;have M:(b:Int)<=l.length:=ae;have N:b+(l.length-b)<=l.length:=ae;have C:(a.take b++List.replicate (l.length-b) (0:Int)++a.drop (b+(l.length-b))).length=l.length:=by simp;omega
     (try simp(disch:=omega) only[go_sem,seval,reduceCtorEq,L,M,N,cB,e,pZ,Eb,ES,oy,List.length_replicate,C])
     refine G _ b C u ?_;rw[List.append_assoc,List.take_append_of_le_length (by simp;omega),List.take_take,Nat.min_self,c]
    .have d:(l.getD k (0:Int)==l.getD (k-1) (0:Int))=false:=by simpa using p
     (try simp(disch:=omega) only[go_sem,seval,reduceCtorEq,g,w,x,y,z,A,B,cB,d,bne,Bool.not_true,Bool.not_false])
     refine fJ (aU ?_);exact I (k+1) ae ae (λj h v=>by
      rcases bS j k with D|D
      .exact f j h D
      .have:j=k:=ae;subst this;exact p)
  refine s _ ?_ ?_ (l.length-1) 1 ae (Nat.le_refl _) (λj h v=>ae)
  .intro f;refine ew ?_;have c:=(vr l _ (Nat.le_refl _) f).symm;exact⟨(l,l.length),by simp[c]⟩
  .intro a k e o c;refine ew ?_;exact⟨(a,k),by simp[e,o,c]⟩
def mi(l:List Int):(sortInt l).length=l.length:=by simp[sortInt]
def HV{x:Int}{l:List Int}:x∈sortInt l↔x∈l:=by unfold sortInt;exact(List.mergeSort_perm _ _).mem_iff
def QA(l:List Int)(f:l.length<=17592186044416)(H:Heap)(id a:Nat)(b:ag H id=some (.row false 1 (aJ l))):BS tb 92 [.ref id l.length 0 l.length] H a (.tuple []) (aC H id (.row false 1 (aJ (sortInt l)))) a:=by
 refine⟨0,?_⟩;have c:tb.A 92=none:=rfl;have d:tb.X=outside:=rfl;have e:l.length<=an:=by simp only[an];omega
 simp only[dQ,c,d];simp[outside,aK.or,oz,oK,tZ,tZ,si,EA,nP,b,vI,e]
def CX(l:List Int):Prop:=l.Pairwise (·<·)
def nO(l:List Rq)(a:Nat)(r:Rq):Bool:=r.2||(l.getD a R0).2
def beforeL(l:List Rq)(x:Int):List Int:=if cO l x<l.length then((l.take (cO l x)).filter (nO l (cO l x))).map (·.1)else[]
def BB{H:Heap}{id:Nat}{b:bq}(h:ag H id=some b):aC H id b=H:=by
 induction H with
 |nil=>rfl
 |cons a r d=>
  obtain⟨k,v⟩:=a;rw[aw]at h;unfold aC;split at h
  .rename_i c;cases h;simp[c]
  .rename_i c;simp[c,d h]
def Qa(l:List Rq)(b:Bool)(P:l.length<=8388608)(a:Nat)(n:a<l.length)(id:Nat)(o:Heap)(hid:∃B,ag o id=some B)(g:List Int)(Q:g.length<=8796109799424)(s t:Nat)(K:Ex->St->Prop)
  (J:∀c:List Int,c=g++((l.take a).filter (nO l a)).map (·.1)->K (.exit 0) ⟨[(0,.ref id c.length 0 c.length)],aC o id (.row false 1 (aJ c)),s,[t]⟩):
  ∀(m i:Nat),i+m=a->∀c:List Int,c=g++((l.take i).filter (nO l a)).map (·.1)->
  W tb nK ⟨[(0,.ref id c.length 0 c.length),(1,.p (.slice b (bM l))),(7,.p (.int .i64 a)),(13,.p (.int .i64 a)),(14,.p (.int .i64 i))],aC o id (.row false 1 (aJ c)),s,[t]⟩ (LK tb nK K):=by
 have z:∀X,ag (aC o id X) id=some X:=λX=>by
  obtain⟨B,L⟩:=hid;rw[aA,aq rfl,L];rfl
 intro m;induction m with
 |zero=>
  rintro i M c d;have p:¬(i:Int)<a:=ae
  have e:i=a:=ae
  subst e;refine aH nK.eq_1 ?_;refine gN p (k1 ?_);exact J c d
 |succ m A=>
  rintro i M c d;have p:(i:Int)<a:=ae
  have C:i<l.length:=ae;have u:(0:Int)<=i:=ae;have q:(0:Int)<=a:=ae
  have w:(i:Int)<l.length:=ae;have D:(a:Int)<l.length:=ae;have k:=iq l i C;have j:=iq l a n
  have E:c.length<=8796109799424+8388608:=by
   rw[d,List.length_append,List.length_map];have:=List.length_filter_le (nO l a) (l.take i);rw[List.length_take]at this;omega
  have F:(c.length+1)*8<=140737488355328:=ae;have G:c.length+1<=140737488355328:=ae;have H:∀v,bT 1 [[PV.int .i64 v]]=true:=λv=>rfl
  have f:nO l a l[i]=(l[i].2||l[a].2):=by unfold nO;rw[fN l a n]
  have h:(l.take (i+1)).filter (nO l a)=(l.take i).filter (nO l a)++if nO l a l[i]then[l[i]]else[]:=by
   rw[List.take_add_one,List.filter_append,List.getElem?_eq_getElem C];cases N:nO l a l[i]<;>simp[N]
  have r:nO l a l[i]=true->W tb nK ⟨[(0,.ref id (c.length+1) 0 (c.length+1)),(1,.p (.slice b (bM l))),(7,.p (.int .i64 a)),(13,.p (.int .i64 a)),(14,.p (.int .i64 ((i+1:Nat):Int)))],aC o id (.row false 1 (aJ (c++[l[i].1]))),s,[t]⟩ (LK tb nK K):=λx=>by
   have:=A (i+1) ae (c++[l[i].1]) (by rw[h,x,d];simp);rw[List.length_append,List.length_singleton]at this;exact this
  have O:nO l a l[i]=false->_:=λx=>A (i+1) ae c (by rw[h,x,d];simp)
  refine aH nK.eq_1 ?_;cases y:l[i].2 with
  |true=>
   rw[y]at k f;refine gN (OK p k u w z F G Q9 H @aE @cB @CR) (k1 ?_);refine fJ (aU ?_)
   (try simp(disch:=omega) only[go_sem,seval,reduceCtorEq,rn,oy])
   exact r (by rw[f];rfl)
  |false=>
   cases I:l[a].2 with
   |true=>
    rw[y]at k f;rw[I]at j f;refine gN (J4 p k j u q w D z F G Q9 H @aE @cB @CR) (k1 ?_);refine fJ (aU ?_)
    (try simp(disch:=omega) only[go_sem,seval,reduceCtorEq,rn,oy])
    exact r (by rw[f];rfl)
   |false=>
    rw[y]at k f;rw[I]at j f;refine gN (xI p k j u q w D @aE) (k1 ?_);refine fJ (aU ?_);refine ew ?_;exact O (by rw[f];rfl)
def CZ(l:List Rq)(b:Bool)(j:l.length<=8388608)(a:Nat)(e:a<l.length)(id:Nat)(H:Heap)(c:List Int)(k:c.length<=8796109799424)(h:ag H id=some (.row false 1 (aJ c)))(f g:Nat)(K:Ex->St->Prop)
  (m:∀d:List Int,d=c++((l.take a).filter (nO l a)).map (·.1)->K (.exit 0) ⟨[(0,.ref id d.length 0 d.length)],aC H id (.row false 1 (aJ d)),f,[g]⟩):
  W tb nK ⟨[(0,.ref id c.length 0 c.length),(1,.p (.slice b (bM l))),(7,.p (.int .i64 a)),(13,.p (.int .i64 a)),(14,.p (.int .i64 0))],H,f,[g]⟩ (LK tb nK K):=by
 have i:=Qa l b j a e id H ⟨_,h⟩ c k f g K m a 0 ae c az
 rw[BB h]at i;exact i
def NA(l:List Rq)(b:Bool)(i:l.length<=8388608)(x:Int)(H:Heap)(id f:Nat)(a:List Int)(k:a.length<=8796109799424)(d:ag H id=some (.row false 1 (aJ a))):
  BS tb 91 [.ref id a.length 0 a.length,.p (.slice b (bM l)),.p (.int .i64 x)] H f (.ref id (a++beforeL l x).length 0 (a++beforeL l x).length) (aC H id (.row false 1 (aJ (a++beforeL l x)))) f:=by
 have g:=qp l b x i;refine wO (af:=a91) rfl rfl ?_;unfold a91;dsimp only[ai];by_cases c:cO l x<l.length
 .rw[pI c]at g;have h:beforeL l x=((l.take (cO l x)).filter (nO l (cO l x))).map (·.1):=by unfold beforeL;rw[aq c]
  have k1:¬((cO l x:Nat):Int)<0:=ae;have k2:(if(0:Int)<(cO l x:Nat)then((cO l x:Nat):Int)else 0)=(cO l x:Nat):=by split<;>omega
  repeat'(first|exact g|(simp(disch:=omega) only[go_sem,seval,reduceCtorEq,d,k1,k2])|with_reducible exact Ev.mk|apply cT|((first|apply aY|apply aQ)<;>intro e h<;>(simp(disch:=omega) only[go_sem,seval,reduceCtorEq,d,k1,k2,e])<;>clear e))
  refine aU ?_;refine ew ?_;refine CZ l b i (cO l x) c id H a k d f f _ ?_;intro j m;refine ew ?_;rw[h,<-m];exact⟨rfl,rfl⟩
 .rw[pG c]at g;have h:beforeL l x=[]:=by unfold beforeL;rw[ak c]
  refine gP d g (k1 ?_);refine aU ?_;refine aH nK.eq_1 ?_;refine gN trivial (k1 ?_);rw[h,List.append_nil,BB d];exact⟨rfl,rfl⟩
def Ld(l:List Rq)(b:Bool)(h:l.length<=8388608)(x:Int)(H:Heap)(a:Nat)(g:ag H a=none):
  BS tb 91 [.p (.slice true []),.p (.slice b (bM l)),.p (.int .i64 x)] H a (.ref a (beforeL l x).length 0 (beforeL l x).length) ((a,.row false 1 (aJ (beforeL l x)))::H) (a+1):=by
 have k:ag ((a,bq.row false 1 [])::H) a=some (.row false 1 (aJ [])):=by rw[aw,aq rfl];rfl
 have e:=qp l b x h;refine wO (af:=a91) rfl rfl ?_;unfold a91;dsimp only[ai];by_cases c:cO l x<l.length
 .rw[pI c]at e;have f:beforeL l x=((l.take (cO l x)).filter (nO l (cO l x))).map (·.1):=by unfold beforeL;rw[aq c]
  have k1:¬((cO l x:Nat):Int)<0:=ae;have k2:(if(0:Int)<(cO l x:Nat)then((cO l x:Nat):Int)else 0)=(cO l x:Nat):=by split<;>omega
  repeat'(first|exact e|(simp(disch:=omega) only[go_sem,seval,reduceCtorEq,g,k1,k2])|with_reducible exact Ev.mk|apply cT|((first|apply aY|apply aQ)<;>intro d f<;>(simp(disch:=omega) only[go_sem,seval,reduceCtorEq,g,k1,k2,d])<;>clear d))
  refine aU ?_;refine ew ?_;refine CZ l b h (cO l x) c a _ [] az k (a+1) a _ ?_;intro i j;refine ew ?_;rw[List.nil_append]at j;rw[f,<-j];exact⟨rfl,rfl⟩
 .rw[pG c]at e;have f:beforeL l x=[]:=by unfold beforeL;rw[ak c]
  refine gP g e (k1 ?_);refine aU ?_;refine aH nK.eq_1 ?_;refine gN trivial (k1 ?_);rw[f];exact⟨rfl,rfl⟩
end
section
open Go Go.Dv
def O3(t:Td)(x:Int):List Int:=beforeL t.1 x++t.2.flatMap λq=>beforeL q.2 x
def gV(t:Td)(x:Int):List Int:=vF (sortInt (O3 t x)) (O3 t x).length
def uj{t:Td}{x y:Int}:y∈gV t x↔y∈O3 t x:=by
 unfold gV;rw[Kd _ _ (by rw[mi];exact Nat.le_refl _),List.take_of_length_le (by rw[mi];exact Nat.le_refl _)];exact HV
def xC(l:List Rq)(x:Int):(beforeL l x).length<=l.length:=by
 unfold beforeL;split
 .rw[List.length_map];have:=List.length_filter_le (nO l (cO l x)) (l.take (cO l x));rw[List.length_take]at this;omega
 .simp
def UM(b:List Qu)(j:Bool)(x:Int)(v:b.length<=8388608)(k:∀q∈b,q.reqs.length<=1048576)(c:List Int)(w:c.length<=8388608)(K:Ex->St->Prop)
  (l:∀a:List Int,a=c++(b.map Qu.d).flatMap (λq=>beforeL q.2 x)->a.length<=8388608+1048576*b.length->K (.exit 0) ⟨[(5,.ref 1 a.length 0 a.length)],[(1,.row false 1 (aJ a))],2,[0]⟩):
  ∀(m i:Nat),i+m=b.length->∀a:List Int,a=c++((b.take i).map Qu.d).flatMap (λq=>beforeL q.2 x)->a.length<=8388608+1048576*i->
  W tb xR ⟨[(1,.p (.int .i64 x)),(5,.ref 1 a.length 0 a.length),(13,.p (.slice j (dL b))),(14,.p (.int .i64 b.length)),(15,.p (.int .i64 i))],[(1,.row false 1 (aJ a))],2,[0]⟩ (LK tb (.ghost (.free [2,7]) (.ghost .lower xR)) K):=by
 intro m;induction m with
 |zero=>
  rintro i n a d h;have f:¬(i:Int)<b.length:=ae;have e:i=b.length:=ae;subst e;rw[List.take_of_length_le (Nat.le_refl _)]at d;refine aH xR.eq_1 ?_;refine gN f (k1 ?_);exact l a d h
 |succ m o=>
  rintro i n a d h;have f:(i:Int)<b.length:=ae;have g:i<b.length:=ae;have p:(0:Int)<=i:=ae;have r:=kZ b i g;have s:=k _ (List.getElem_mem g);have t:=xC b[i].reqs x;have u:=NA b[i].reqs b[i].fl ae x [(2,.var false [.p (.str b[i].key),.p (.slice b[i].fl (bM b[i].reqs))]),(1,.row false 1 (aJ a))] 1 3 a ae rfl;refine aH xR.eq_1 ?_;refine gR (dS f r p) trivial u (k1 ?_);refine fJ (aU ?_);refine ew ?_;exact o (i+1) ae _ (by rw[nc b i g,List.flatMap_append,d];simp) (by rw[List.length_append];omega)
def QY(t:Tb)(x:Int)(u:t.g.length<=1048576)(y:t.qs.length<=4194304)(m:∀q∈t.qs,q.reqs.length<=1048576):∃b,PS tb 49 [.agg (lT t),.int .i64 x] (.slice b (aJ (gV t.d x))):=by
 have w:W tb a49.body {env:=ai 0 ([PV.agg (lT t),PV.int .i64 x].map aI),heap:=[],next:=0,marks:=[0]}
   (eX a49.results λv s=>∃b:Bool,aS s.heap dep v=some (.slice b (aJ (gV t.d x)))):=by
  have n:=Ld t.g t.gf ae x [(0,.var false [.p (.slice t.gf (bM t.g)),.p (.slice t.qf (dL t.qs))])] 1 rfl;have o:=xC t.g x;unfold a49;dsimp only[List.map,aI,ai,lT];refine gR @cE trivial n (k1 ?_);refine aU ?_;refine ew ?_;refine UM t.qs t.qf x ae m (beforeL t.g x) ae _ ?_ t.qs.length 0 ae _ az ae;intro a c p;have e:a=O3 t.d x:=c;have r:=QA a ae [(1,.row false 1 (aJ a))] 1 2 rfl;obtain⟨⟨j,k⟩,l,d,g,i⟩:=H7 (sortInt a) (by rw[mi];omega);rw[mi]at l d g i;refine gR trivial trivial (bA r l) (k1 ?_);refine⟨false,?_⟩;have:gV t.d x=j.take k:=by rw[i,e];rfl
  rw[this];simp[aS,dep,ag,cB,pZ,d,g]
 obtain⟨b,h⟩:=jg (T:=tb) (f:=49) (af:=a49) rfl rfl w;exact⟨b,h⟩
structure Sm(t:Tb):Prop where
 g:t.g.length<=1048576
 q:t.qs.length<=2097152
 r:∀q∈t.qs,q.reqs.length<=1048576
def mF(t:Td)(x:Int):Bool:=gn t&&decide (cO t.1 x<t.1.length)&&decide ((gV t x).length=0)
def iI(t:Td):List Int:=if gn t then(t.1.map (·.1)).filter λx=>decide ((gV t x).length=0)else[]
def Uu(t:Tb)(h:Sm t)(K:Ex->St->Prop)
  (q:∀a:List Int,a=(t.g.map (·.1)).filter (λx=>decide ((gV t.d x).length=0))->K (.exit 0) ⟨[(3,.ref 1 a.length 0 a.length)],[(1,.row false 1 (aJ a))],2,[0]⟩):
  ∀(m i:Nat),i+m=t.g.length->∀a:List Int,a=((t.g.take i).map (·.1)).filter (λx=>decide ((gV t.d x).length=0))->
  W tb xY ⟨[(1,.ptr 0 0),(3,.ref 1 a.length 0 a.length),(10,.p (.slice t.gf (bM t.g))),(11,.p (.int .i64 t.g.length)),(12,.p (.int .i64 i))],[(1,.row false 1 (aJ a)),(0,.var false [.p (.slice t.gf (bM t.g)),.p (.slice t.qf (dL t.qs))])],2,[0]⟩ (LK tb (.ghost (.free [5]) (.ghost .lower xY)) K):=by
 intro m;induction m with
 |zero=>
  rintro i r a d;have f:¬(i:Int)<t.g.length:=ae;rw[List.take_of_length_le ae]at d;refine aH xY.eq_1 ?_;refine gN f (k1 ?_);exact q a d
 |succ m l=>
  rintro i r a d;have f:(i:Int)<t.g.length:=ae;have n:i<t.g.length:=ae;have o:(0:Int)<=i:=ae;have p:=iq t.g i n;obtain⟨b,g⟩:=QY t t.g[i].1 h.g (by have:=h.q;omega) h.r;dsimp only[lT]at g;have s:=h.g;have u:a.length<=1048576:=by
   rw[d];have:=List.length_filter_le (λx=>decide ((gV t.d x).length=0)) ((t.g.take i).map (·.1));rw[List.length_map,List.length_take]at this;omega
  have w:(a.length+1)*8<=140737488355328:=ae;have y:a.length+1<=140737488355328:=ae;have z:∀v,bT 1 [[PV.int .i64 v]]=true:=λv=>rfl
  have c:((t.g.take (i+1)).map (·.1)).filter (λx=>decide ((gV t.d x).length=0))=a++if(gV t.d t.g[i].1).length=0 then[t.g[i].1]else[]:=by
   rw[List.take_add_one,List.map_append,List.filter_append,d,List.getElem?_eq_getElem n];by_cases e:(gV t.d t.g[i].1).length=0
   .have j:gV t.d t.g[i].1=[]:=List.length_eq_zero_iff.1 e;simp[j]
   .have j:¬gV t.d t.g[i].1=[]:=λh=>e (by rw[h];rfl)
    simp[j]
  refine aH xY.eq_1 ?_;by_cases e:(gV t.d t.g[i].1).length=0
  .have k:(((gV t.d t.g[i].1).length:Int)==0)=true:=by simp[e]
   rw[aq e]at c;refine gP (o9 f p o k w y Q9 z @aE @cB) g (k1 ?_);refine fJ (aU ?_)
   (try simp(disch:=omega) only[go_sem,seval,reduceCtorEq,rn,oy])
   have:=l (i+1) ae (a++[t.g[i].1]) c.symm;rw[List.length_append,List.length_singleton]at this;exact this
  .have k:(((gV t.d t.g[i].1).length:Int)==0)=false:=by rw[fy];omega
   rw[ak e,List.append_nil]at c;refine gP (vE f p o k @aE @cB) g (k1 ?_);refine fJ (aU ?_);refine ew ?_;exact l (i+1) ae a c.symm
def P6(t:Tb)(h:Sm t):∃b,PS tb 20 [.agg (lT t)] (.slice b (aJ (iI t.d))):=by
 have d:=A2 t (by have:=h.g;omega) (by have:=h.q;omega) (λq f=>by have:=h.r q f;omega);cases c:gn t.d with
 |false=>
  refine⟨true,?_⟩;rw[c]at d;have e:iI t.d=[]:=by unfold iI;rw[c];rfl
  rw[e];refine bD (af:=a20) rfl rfl ?_;unfold a20;dsimp only[List.map,aI,ai,lT]at d⊢;refine gP trivial d (k1 ?_);all_goals rfl
 |true=>
  refine⟨false,?_⟩;rw[c]at d;have e:iI t.d=(t.g.map (·.1)).filter (λx=>decide ((gV t.d x).length=0)):=by unfold iI;rw[c];rfl
  refine bD (af:=a20) rfl rfl ?_;unfold a20;dsimp only[List.map,aI,ai,lT]at d⊢;refine gP @aE d (k1 ?_);refine aU ?_;refine ew ?_;refine Uu t h _ ?_ t.g.length 0 ae [] rfl;intro g a;rw[<-e]at a;refine gN trivial (k1 ?_);all_goals simp[aS,dep,ag,a,cB,pZ]
end
section
open Go Go.Dv
end
section
open Go Go.Dv
def fB:List Qd->ByteArray->List Rq
 |[],_=>[]
 |q::l,k=>if q.1=k then q.2 else fB l k
def wF(l:List Qd):Prop:=∀q∈l,q.2≠[]
def wN{k:ByteArray}:∀{l:List Qd},(∀p∈l,p.1≠k)->fB l k=[]
 |[],_=>rfl
 |q::l,h=>by
  rw[fB,ak (h q az)];exact wN λp a=>h p (List.mem_cons_of_mem _ a)
def F4{q:Qd}:∀{l:List Qd},iW l->q∈l->fB l q.1=q.2
 |[],_,h=>by cases h
 |p::l,a,h=>by
  rcases List.mem_cons.1 h with e|e
  .subst e;rw[fB,aq rfl]
  .have:=(List.pairwise_cons.1 a).1 q e;rw[fB,ak (kf this)];exact F4 (List.pairwise_cons.1 a).2 e
def vf{k:ByteArray}:∀{l:List Qd},fB l k≠[]->(k,fB l k)∈l
 |[],h=>absurd rfl h
 |p::l,h=>by
  by_cases e:p.1=k
  .rw[fB,aq e];rw[<-e];simp
  .rw[fB,ak e]at h⊢;exact List.mem_cons_of_mem _ (vf h)
def Gq{k k':ByteArray}{r:Rq}:∀{l:List Qd},iW l->fB (iX k r l) k'=if k'=k then fB l k++[r]else fB l k'
 |[],_=>by
  by_cases e:k'=k
  .subst e;simp[iX,fB]
  .have d:¬k=k':=λh=>e h.symm
   rw[ak e]
   show(if k=k' then[r]else[])=[]
   rw[ak d]
 |q::l,f=>by
  have b:=List.pairwise_cons.1 f;cases c:slt q.1 k with
  |true=>
   have a:q.1≠k:=kf c;have g:=Gq (k:=k) (k':=k') (r:=r) b.2;rw[iX,c,aq rfl,fB,fB,fB,ak a,g];by_cases e:k'=k
   .subst e;rw[ak a,aq rfl,aq rfl]
   .rw[ak e,ak e]
  |false=>
   rw[iX,c,ak az];by_cases a:q.1=k
   .rw[aq a,fB,fB,fB,aq a];by_cases e:k'=k
    .subst e;rw[aq a,aq rfl]
    .have:¬q.1=k':=λh=>e (h.symm.trans a)
     rw[ak this,ak e,ak this]
   .rw[ak a,fB];by_cases e:k'=k
    .subst e;rw[aq rfl,aq rfl];have:slt k' q.1=true:=by
      cases i:slt k' q.1 with
      |true=>rfl
      |false=>exact absurd (kq c i) a
     rw[wN (l:=q::l)]
     .rfl
     .intro p j;rcases List.mem_cons.1 j with h|h
      .rw[h];exact a
      .exact(kf (gM this (b.1 p h))).symm
    .rw[ak (λh=>e h.symm),ak e]
def qM(f:ByteArray->Rq)(a:List ByteArray)(b:List Qd):List Qd:=a.foldl (λq k=>iX k (f k) q) b
def Kn(a:List ByteArray)(r:Rq)(b:List Qd):fk a r b=qM (λ_=>r) a b:=rfl
def iW.qM(f:ByteArray->Rq):∀(a:List ByteArray) {b:List Qd},iW b->iW (qM f a b)
 |[],_,h=>h
 |k::a,_,h=>iW.qM f a (h.iX k (f k))
def wF.iX{e:List Qd}(h:wF e)(k:ByteArray)(r:Rq):wF (iX k r e):=λq f=>by
 rcases xP f with a|a|⟨p,b,c,d⟩
 .exact h q a
 .rw[a];simp
 .rw[d];simp
def wF.qM(f:ByteArray->Rq):∀(a:List ByteArray) {b:List Qd},wF b->wF (qM f a b)
 |[],_,h=>h
 |k::a,_,h=>wF.qM f a (h.iX k (f k))
def w9(f:ByteArray->Rq)(k:ByteArray):∀(b:List ByteArray) {d:List Qd},iW d->b.Nodup->fB (qM f b d) k=fB d k++if hasB b k then[f k]else[]
 |[],d,_,_=>by
  have:hasB [] k=false:=rfl;rw[this];simp[Go.Dv.Tryz.qM]
 |a::b,d,h,l=>by
  have g:=List.nodup_cons.1 l;have m:=w9 f k b (h.iX a (f a)) g.2;have e:Go.Dv.Tryz.qM f (a::b) d=Go.Dv.Tryz.qM f b (iX a (f a) d):=rfl;rw[e,m,Gq h];by_cases c:k=a
  .subst c;have n:hasB b k=false:=iY.2 g.1;have i:hasB (k::b) k=true:=ej.2 az;rw[aq rfl,n,i];simp
  .rw[ak c];cases j:hasB b k with
   |true=>
    have i:hasB (a::b) k=true:=ej.2 (List.mem_cons_of_mem _ (ej.1 j));rw[i]
   |false=>
    have i:hasB (a::b) k=false:=iY.2 λe=>by
     rcases List.mem_cons.1 e with e|e
     .exact c e
     .exact iY.1 j e
    rw[i]
def vY{l:List ByteArray}(h:eY l):l.Nodup:=List.Pairwise.imp (λ{a b} h=>kf h) h
def wL{w r:List ByteArray}{k:ByteArray}:k∈other w r↔k∈r/\k∉w:=by
 unfold other;rw[List.mem_filter];constructor
 .rintro⟨a,b⟩;exact⟨a,by rw[<-iY];simpa using b⟩
 .rintro⟨a,b⟩;exact⟨a,by rw[iY.2 b];rfl⟩
def js(f:Ft)(x:Int)(k:ByteArray):List Rq:=if hasB f.w k then[(x,true)]else if hasB f.r k then[(x,false)]else[]
def Pj{f:Ft}(i:f.r.Nodup)(j:f.w.Nodup)(x:Int){b:List Qd}(h:iW b)(k:ByteArray):fB (fk (other f.w f.r) (x,false) (fk f.w (x,true) b)) k=fB b k++js f x k:=by
 have d:(other f.w f.r).Nodup:=List.Nodup.sublist List.filter_sublist i;rw[Kn,Kn,w9 _ _ _ (iW.qM _ _ h) d,w9 _ _ _ h j,List.append_assoc];congr 1;unfold js;cases c:hasB f.w k with
 |true=>
  have a:hasB (other f.w f.r) k=false:=iY.2 λe=>(wL.1 e).2 (ej.1 c)
  rw[a];rfl
 |false=>
  cases g:hasB f.r k with
  |true=>
   have a:hasB (other f.w f.r) k=true:=ej.2 (wL.2 ⟨ej.1 g,iY.1 c⟩);rw[a];rfl
  |false=>
   have a:hasB (other f.w f.r) k=false:=iY.2 λe=>iY.1 g (wL.1 e).1
   rw[a];rfl
def Ml{t:Td}(h:gn t=true):wF t.2:=by
 unfold gn at h;rw[aL]at h;have c:=kd.1 h.2;intro q d;obtain⟨i,b,rfl⟩:=List.getElem_of_mem d;have:=c i b;rw[aL]at this;have:=this.1;unfold tU at this;simp only[aL,df]at this;have a:=this.1.2;rw[List.getD_eq_getElem?_getD,List.getElem?_eq_getElem b]at a;intro e;rw[ka,e]at a;simp at a
def EU{f:Ft}(h:dk f=true):f.r.Nodup/\f.w.Nodup:=by
 unfold dk at h;split at h
 .simp only[aL,df]at h;rw[List.length_eq_zero_iff.1 h.1,List.length_eq_zero_iff.1 h.2];simp
 .simp only[aL,df]at h;exact⟨vY (nT.1 h.1.1).2,vY (nT.1 h.2.1).2⟩
end
section
open Go Go.Dv
end
section
open Go Go.Dv
end
section
open Go Go.Dv
def Ib{l:List Rq}(h:qN l=true):CX (l.map (·.1)):=by
 have c:=kd.1 h;have f:∀(j i:Nat) (b:i+1+j<l.length),(l[i]'ae).1<l[i+1+j].1:=by
  intro j;induction j with
  |zero=>
   intro i b;have:=c (i+1) b;unfold BU at this;simp only[aL,ji,df]at this;rcases this.2 with e|e
   .omega
   .rw[fN l _ b,fN l (i+1-1) ae]at e;exact e
  |succ j g=>
   intro i b;have a:=g i ae;have:=c (i+1+(j+1)) b;unfold BU at this;simp only[aL,ji,df]at this;rcases this.2 with e|e
   .omega
   .rw[fN l _ b,fN l (i+1+(j+1)-1) ae]at e;have k:i+1+(j+1)-1=i+1+j:=ae;simp only[k]at e;omega
 unfold CX;rw[List.pairwise_map,List.pairwise_iff_getElem];intro i j n b m;obtain⟨d,rfl⟩:∃d,j=i+1+d:=⟨j-i-1,ae⟩;exact f d i b
def Gr{t:Td}(h:gn t=true):qN t.1=true:=by
 unfold gn at h;rw[aL]at h;exact h.1
def AX{t:Td}(h:gn t=true){q:Qd}(b:q∈t.2):lK q.1=true/\qN q.2=true/\q.2.all (sV t.1)=true:=by
 unfold gn at h;rw[aL]at h;obtain⟨i,a,rfl⟩:=List.getElem_of_mem b;have:=kd.1 h.2 i a;rw[aL,List.getD_eq_getElem?_getD,List.getElem?_eq_getElem a,ka]at this;refine⟨?_,?_,this.2⟩
 .have:=this.1;unfold tU at this;rw[List.getD_eq_getElem?_getD,List.getElem?_eq_getElem a,ka]at this;simp only[aL]at this;exact this.1.1.1
 .have:=this.1;unfold tU at this;rw[List.getD_eq_getElem?_getD,List.getElem?_eq_getElem a,ka]at this;simp only[aL]at this;exact this.2
structure Sm2(t:Tb):Prop extends Sm t where
 k:∀q∈t.qs,q.key.size<=1048576
def Ly{g:List Rq}{x:Int}(h:x∈g.map (·.1)):cO g x<g.length:=by
 obtain⟨r,a,rfl⟩:=List.mem_map.1 h;exact List.findIdx_lt_length_of_exists ⟨r,a,az⟩
def NJ(t:Td):(t.1.map (·.1)).filter (λx=>mF t x)=iI t:=by
 unfold iI;cases c:gn t with
 |false=>
  rw[ak az];rw[List.filter_eq_nil_iff];intro x _;unfold mF;rw[c];simp
 |true=>
  rw[aq rfl];refine List.filter_congr λx a=>?_
  unfold mF;rw[c,jl (Ly a)];rfl
end
end Go.Dv.Tryz
