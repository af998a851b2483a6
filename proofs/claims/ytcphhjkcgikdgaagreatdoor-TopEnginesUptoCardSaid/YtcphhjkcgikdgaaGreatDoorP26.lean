/- Lemmas for the law of this claim. -/
import Derived.Test.YtcphhjkcgikdgaaGreatDoorP25
set_option linter.all false
set_option maxRecDepth 100000
set_option maxHeartbeats 2000000
namespace Go.Dv.Tryz
section
open Go Go.Dv
def QW(s:ByteArray):PS tb 154 [.str s] (.bool false):=by
 refine bD (af:=a154) rfl rfl ?_;unfold a154;dsimp only[List.map,aI,ai];exact gN trivial k0
def sZ(s:ByteArray):PS tb 126 [.str s] (.bool false):=by
 refine bD (af:=Sc) rfl rfl ?_;unfold Sc;dsimp only[List.map,aI,ai];exact gN trivial k0
def Jh(a c:ByteArray):PS tb 125 [.str a,.str c] (.bool (slt a c)):=by
 refine bD (af:=Ut) rfl rfl ?_;unfold Ut;dsimp only[List.map,aI,ai];exact gP trivial (λ{b}=>QW b) k0
def AE(n:Nat):((n:Int).fdiv (2^min 1 64))=((n/2:Nat):Int):=by
 have e:(2:Int)^min 1 64=2:=rfl;rw[e,Int.fdiv_eq_ediv_of_nonneg _ ae];rfl
def PZ(l:List ByteArray)(k:ByteArray)(b:Bool)(B:l.length<=1048576)(r:EI l)(K:Ex->St->Prop)
  (e:∀p,p<=l.length->(∀x,x<p->slt (l.getD x E) k=true)->(∀x,p<=x->x<l.length->slt (l.getD x E) k=false)->K (.exit 0) ⟨[(0,.p (.slice b (aF l))),(1,.p (.str k)),(6,.p (.int .i64 l.length)),(7,.p (.int .i64 p))],[],0,[0]⟩):
  ∀(m i j:Nat),j-i<=m->i<=j->j<=l.length->(∀x,x<i->slt (l.getD x E) k=true)->(∀x,j<=x->x<l.length->slt (l.getD x E) k=false)->
  W tb nw ⟨[(0,.p (.slice b (aF l))),(1,.p (.str k)),(6,.p (.int .i64 l.length)),(7,.p (.int .i64 i)),(8,.p (.int .i64 j))],[],0,[0]⟩ (LK tb (.ghost .lower nw) K):=by
 intro m;induction m with
 |zero=>
  intro i j t o f g h;obtain rfl:i=j:=ae;have a:¬(i:Int)<i:=ae;refine aH nw.eq_1 ?_
  (try simp(disch:=omega) only[go_sem,seval,reduceCtorEq,a])
  exact e i f g h
 |succ m s=>
  intro i j t o f g h;by_cases u:i<j
  .have a:(i:Int)<j:=ae;have v:(i:Int)+(j:Int)=((i+j:Nat):Int):=ae;have w:=AE (i+j);have q:(i+j)/2<l.length:=ae;have y:=dN l _ q;have z:(0:Int)<=(((i+j)/2:Nat):Int):=ae;refine aH nw.eq_1 ?_;refine hP (vE a v w y z Go.IntWalk.u64_in) (λ{A}=>Jh A k) (k2 ?_ ?_)<;>(repeat with_reducible intro n)
   .refine fJ (aU ?_);refine ew ?_;refine s ((i+j)/2+1) j ae ae f (λx e=>?_) h;rw[bW l x ae];rcases bS x ((i+j)/2)with c|c
    .exact rK ((List.pairwise_iff_getElem.1 r) x _ ae q c) n
    .have:x=(i+j)/2:=ae;subst this;exact n
   .refine fJ (aU ?_);refine ew ?_;refine s i ((i+j)/2) ae ae ae g (λx e d=>?_);rw[bW l x d];rcases bS ((i+j)/2) x with c|c
    .exact wI (by simpa using n) ((List.pairwise_iff_getElem.1 r) _ x q d c)
    .have:x=(i+j)/2:=ae;subst this;simpa using n
  .obtain rfl:i=j:=ae;have a:¬(i:Int)<i:=ae;refine aH nw.eq_1 ?_
   (try simp(disch:=omega) only[go_sem,seval,reduceCtorEq,a])
   exact e i f g h
def NI(l:List ByteArray)(k:ByteArray)(b:Bool)(u:l.length<=1048576)(m:EI l):∃p:Nat,PS tb 99 [.slice b (aF l),.str k] (.tuple [.int .i64 p,.bool (hasB l k)]):=by
 have w:W tb MA.body {env:=ai 0 ([PV.slice b (aF l),PV.str k].map aI),heap:=[],next:=0,marks:=[0]} (eX MA.results λv s=>∃p:Nat,aS s.heap dep v=some (.tuple [.int .i64 p,.bool (hasB l k)])):=by
  unfold MA;dsimp only[List.map,aI,ai]
  (try simp(disch:=omega) only[go_sem,seval,reduceCtorEq,au])
  refine aU ?_;refine ew ?_;refine PZ l k b u m _ ?_ l.length 0 l.length ae ae (Nat.le_refl _) (λx h=>ae) (λx h A=>ae);intro p B n y;by_cases a:p<l.length
  .have f:(p:Int)<l.length:=ae;have o:=dN l _ a;have q:(0:Int)<=p:=ae;by_cases c:l[p]=k
   .have d:hasB l k=true:=ej.2 (by rw[<-c];exact List.getElem_mem a);refine gP (fW f o q c) (λ{i}=>sZ i) (k1 ?_);exact⟨p,by simp[aS,dep,bP,d]⟩
   .have d:hasB l k=false:=by
     rw[iY];intro j;obtain⟨x,g,rfl⟩:=List.mem_iff_getElem.1 j;have e:=y p (Nat.le_refl _) a;rw[bW l p a]at e;rcases bS x p with r|r
     .have:=n x r;rw[bW l x g,kU]at this;cases this
     .rcases bS p x with t|t
      .have z:=(List.pairwise_iff_getElem.1 m) p x a g t;exact c (kq e z)
      .have:x=p:=ae;subst this;exact c rfl
    refine gP (fW f o q c) (λ{i}=>sZ i) (k1 ?_);exact⟨p,by simp[aS,dep,bP,d]⟩
  .have f:¬(p:Int)<l.length:=ae;have d:hasB l k=false:=by
    rw[iY];intro j;obtain⟨x,g,rfl⟩:=List.mem_iff_getElem.1 j;have:=n x ae;rw[bW l x g,kU]at this;cases this
   refine gN f (k1 ?_);exact⟨p,by simp[aS,dep,bP,d]⟩
 exact jg rfl rfl w
def SH(l c:List ByteArray)(b d:Bool)(w:l.length<=1048576)(n:c.length<=1048576)(o:EI c)(K:Ex->St->Prop)(p:(∀j,j<l.length->(λj=>!hasB c (l.getD j E)) j=true)->K (.exit 0) ⟨[],[],0,[0]⟩)
  (q:∀i,i<l.length->(λj=>!hasB c (l.getD j E)) i=false->∀g,ag g.env 4=some (.p (.bool true))->K .ret g):∀(m i:Nat),i+m=l.length->(∀j,j<i->(λj=>!hasB c (l.getD j E)) j=true)->
  W tb xX ⟨[(1,.p (.slice d (aF c))),(9,.p (.slice b (aF l))),(10,.p (.int .i64 l.length)),(11,.p (.int .i64 i))],[],0,[0]⟩ (LK tb (.ghost .lower xX) K):=by
 intro m;induction m with
 |zero=>
  intro i r a;have e:¬(i:Int)<l.length:=ae;refine aH xX.eq_1 ?_;refine gN (bA e @au) (k1 ?_);exact p (λj x=>a j ae)
 |succ m s=>
  intro i r a;have e:(i:Int)<l.length:=ae;have f:i<l.length:=ae;have t:(0:Int)<=i:=ae;have u:=dN l i f;have h:hasB c (l.getD i E)=hasB c l[i]:=by rw[bW l i f]
  obtain⟨y,v⟩:=NI c l[i] d n o;refine aH xX.eq_1 ?_;refine hP (fW e t @au u) v (k2 ?_ ?_)<;>(repeat with_reducible intro k)
  all_goals first
   |(exfalso;omega)
   |exact q i f (by(try dsimp only);rw[h];simp[k]) _ rfl
   |(refine fJ (aU ?_)
     (try simp(disch:=omega) only[go_sem,seval,reduceCtorEq,au])
     exact s (i+1) ae (nC a (by(try dsimp only);rw[h];simp[k])))
def AD(l c:List ByteArray)(b d:Bool)(g:l.length<=1048576)(h:c.length<=1048576)(j:EI c):PS tb 63 [.slice b (aF l),.slice d (aF c)] (.bool (oi l c)):=by
 refine bD (af:=XS) rfl rfl ?_;unfold XS;dsimp only[List.map,aI,ai];refine gN @au (k1 ?_);refine aU ?_;refine ew ?_;refine SH l c b d g h j _ ?_ ?_ l.length 0 ae az
 .intro k;refine ew ?_;have:oi l c=false:=by
   rw[oi,List.any_eq_false];intro x m;have:=(A0 l λx=>!hasB c x).1 k x m;simpa using this
  simp only[this,aS,dep]
 .intro i f a n e
  (try simp(disch:=omega) only[go_sem,seval,reduceCtorEq,e])
  dsimp only at a;rw[bW l i f]at a;have:oi l c=true:=by
   rw[oi,List.any_eq_true];exact⟨l[i],List.getElem_mem f,by simpa using a⟩
  simp only[this,aS,dep]
def Md{f:Ft}(h:dk f=true):EI f.r/\EI f.w:=by
 have c:∀{l:List ByteArray},eY l->EI l:=λ{l} h=>List.Pairwise.imp (λ{a b} h=>og h) h
 unfold dk at h;split at h
 .simp only[aL,df]at h;rw[List.eq_nil_of_length_eq_zero h.1,List.eq_nil_of_length_eq_zero h.2];exact⟨List.Pairwise.nil,List.Pairwise.nil⟩
 .simp only[aL]at h;exact⟨c (nT.1 h.1.1).2,c (nT.1 h.2.1).2⟩
def Ms(f g:Ft)(h:oO f)(k:oO g):PS tb 32 [.agg (jZ f),.agg (jZ g)] (.bool (pA f g)):=by
 have c:=qw f h;have d:=qw g k;refine bD (af:=Ys) rfl rfl ?_;unfold Ys;dsimp only[List.map,aI,jZ,ai]at c d⊢;cases j:dk f<;>cases i:dk g<;>cases a:f.all<;>cases b:g.all<;>simp only[pA,j,i,a,b,Bool.not_true,Bool.not_false,Bool.or_true,Bool.or_false,Bool.false_or,Bool.true_or]
 case true.true.false.false=>
  rw[j,a]at c;rw[i,b]at d;have l:=Md i;exact gP (bA a b) (dP c d (AD f.w g.w f.bw g.bw h.2.1 k.2.1 l.2) (AD f.w g.r f.bw g.br h.2.1 k.1.1 l.1) (AD f.r g.w f.br g.bw h.1.1 k.2.1 l.2)) k0;all_goals simp_all [aS,dep]
 all_goals(rw[j,a]at c;rw[i,b]at d;repeat'(first|exact c|exact d|(simp(disch:=omega) only[go_sem,seval,reduceCtorEq,a,b])|with_reducible exact Ev.mk|apply cT|((first|apply aY|apply aQ)<;>intro e m<;>(simp(disch:=omega) only[go_sem,seval,reduceCtorEq,a,b,e])<;>clear e)))
end
section
open Go Go.Dv
def Rk(l:List ByteArray)(k:ByteArray)(p:Nat):Prop:=p<=l.length/\(∀x,x<p->slt (l.getD x E) k=true)/\(∀x,p<=x->x<l.length->slt (l.getD x E) k=false)
def Mk(l:List ByteArray)(k:ByteArray)(b:Bool)(B:l.length<=1099511627776)(r:EI l)(K:Ex->St->Prop)
  (e:∀p,p<=l.length->(∀x,x<p->slt (l.getD x E) k=true)->(∀x,p<=x->x<l.length->slt (l.getD x E) k=false)->K (.exit 0) ⟨[(0,.p (.slice b (aF l))),(1,.p (.str k)),(6,.p (.int .i64 l.length)),(7,.p (.int .i64 p))],[],0,[0]⟩):
  ∀(m i j:Nat),j-i<=m->i<=j->j<=l.length->(∀x,x<i->slt (l.getD x E) k=true)->(∀x,j<=x->x<l.length->slt (l.getD x E) k=false)->
  W tb nw ⟨[(0,.p (.slice b (aF l))),(1,.p (.str k)),(6,.p (.int .i64 l.length)),(7,.p (.int .i64 i)),(8,.p (.int .i64 j))],[],0,[0]⟩ (LK tb (.ghost .lower nw) K):=by
 intro m;induction m with
 |zero=>
  intro i j t o f g h;obtain rfl:i=j:=ae;have a:¬(i:Int)<i:=ae;refine aH nw.eq_1 ?_
  (try simp(disch:=omega) only[go_sem,seval,reduceCtorEq,a])
  exact e i f g h
 |succ m s=>
  intro i j t o f g h;by_cases u:i<j
  .have a:(i:Int)<j:=ae;have v:(i:Int)+(j:Int)=((i+j:Nat):Int):=ae;have w:=AE (i+j);have q:(i+j)/2<l.length:=ae;have y:=dN l _ q;have z:(0:Int)<=(((i+j)/2:Nat):Int):=ae;refine aH nw.eq_1 ?_;refine hP (vE a v w y z Go.IntWalk.u64_in) (λ{A}=>Jh A k) (k2 ?_ ?_)<;>(repeat with_reducible intro n)
   .refine fJ (aU ?_);refine ew ?_;refine s ((i+j)/2+1) j ae ae f (λx e=>?_) h;rw[bW l x ae];rcases bS x ((i+j)/2)with c|c
    .exact rK ((List.pairwise_iff_getElem.1 r) x _ ae q c) n
    .have:x=(i+j)/2:=ae;subst this;exact n
   .refine fJ (aU ?_);refine ew ?_;refine s i ((i+j)/2) ae ae ae g (λx e d=>?_);rw[bW l x d];rcases bS ((i+j)/2) x with c|c
    .exact wI (by simpa using n) ((List.pairwise_iff_getElem.1 r) _ x q d c)
    .have:x=(i+j)/2:=ae;subst this;simpa using n
  .obtain rfl:i=j:=ae;have a:¬(i:Int)<i:=ae;refine aH nw.eq_1 ?_
   (try simp(disch:=omega) only[go_sem,seval,reduceCtorEq,a])
   exact e i f g h
def Jk(l:List ByteArray)(k:ByteArray)(b:Bool)(B:l.length<=1099511627776)(r:EI l):∃p:Nat,Rk l k p/\PS tb 99 [.slice b (aF l),.str k] (.tuple [.int .i64 p,.bool (hasB l k)]):=by
 have w:W tb MA.body {env:=ai 0 ([PV.slice b (aF l),PV.str k].map aI),heap:=[],next:=0,marks:=[0]} (eX MA.results λv s=>∃q:{p:Nat//Rk l k p},aS s.heap dep v=some (.tuple [.int .i64 q.1,.bool (hasB l k)])):=by
  unfold MA;dsimp only[List.map,aI,ai]
  (try simp(disch:=omega) only[go_sem,seval,reduceCtorEq,au])
  refine aU ?_;refine ew ?_;refine Mk l k b B r _ ?_ l.length 0 l.length ae ae (Nat.le_refl _) (λx h=>ae) (λx h F=>ae);intro p C m t;have c:Rk l k p:=⟨C,m,t⟩;by_cases a:p<l.length
  .have i:(p:Int)<l.length:=ae;have u:=dN l _ a;have y:(0:Int)<=p:=ae;by_cases d:l[p]=k
   .have e:hasB l k=true:=ej.2 (by rw[<-d];exact List.getElem_mem a);refine gP (fW i u y d) (λ{n}=>sZ n) (k1 ?_);exact⟨⟨p,c⟩,by simp[aS,dep,bP,e]⟩
   .have e:hasB l k=false:=by
     rw[iY];intro o;obtain⟨x,j,rfl⟩:=List.mem_iff_getElem.1 o;have g:=t p (Nat.le_refl _) a;rw[bW l p a]at g;rcases bS x p with z|z
     .have:=m x z;rw[bW l x j,kU]at this;cases this
     .rcases bS p x with A|A
      .have D:=(List.pairwise_iff_getElem.1 r) p x a j A;exact d (kq g D)
      .have:x=p:=ae;subst this;exact d rfl
    refine gP (fW i u y d) (λ{n}=>sZ n) (k1 ?_);exact⟨⟨p,c⟩,by simp[aS,dep,bP,e]⟩
  .have i:¬(p:Int)<l.length:=ae;have e:hasB l k=false:=by
    rw[iY];intro o;obtain⟨x,j,rfl⟩:=List.mem_iff_getElem.1 o;have:=m x ae;rw[bW l x j,kU]at this;cases this
   refine gN i (k1 ?_);exact⟨⟨p,c⟩,by simp[aS,dep,bP,e]⟩
 obtain⟨q,E⟩:=jg (f:=99) rfl rfl w;exact⟨q.1,q.2,E⟩
def eY.asc{l:List ByteArray}(h:eY l):EI l:=List.Pairwise.imp (λh=>og h) h
def IA{l:List ByteArray}{k:ByteArray}{p:Nat}(h:Rk l k p):p=pos k l:=by
 obtain⟨g,d,e⟩:=h;have f:=B7 k l;rcases Dt p (pos k l)with c|c|c
 .have a:=e p (Nat.le_refl _) ae;have b:=H6 k l p c;rw[b]at a;cases a
 .exact c
 .have a:=d (pos k l) c;have b:=pos_at k l ae;rw[b]at a;cases a
def TW{l:List ByteArray}{k:ByteArray}{p:Nat}(h:Rk l k p)(d:hasB l k=true)(f:eY l):ins k l=l:=by
 have g:=IA h;obtain⟨n,j,m⟩:=h;unfold ins;rw[aq];obtain⟨i,b,rfl⟩:=List.mem_iff_getElem.1 (ej.1 d);have e:p=i:=by
  rcases Dt p i with c|c|c
  .have a:=m p (Nat.le_refl _) ae;rw[bW l p ae,(List.pairwise_iff_getElem.1 f) p i ae b c]at a;cases a
  .exact c
  .have a:=j i c;rw[bW l i b,kU]at a;cases a
 rw[<-g,e];exact⟨b,bW l i b⟩
def UA{l:List ByteArray}{k:ByteArray}{p:Nat}(h:Rk l k p)(c:hasB l k=false):ins k l=l.take p++k::l.drop p:=by
 have d:=IA h;unfold ins;rw[ak,<-d,List.append_assoc,List.singleton_append];rintro⟨a,b⟩;rw[bW l _ a]at b;have:k∈l:=by rw[<-b];exact List.getElem_mem a
 rw[<-ej,c]at this;cases this
def Ud(l:List ByteArray)(k:ByteArray)(b:Bool)(p:Nat)(m:p<=l.length)(n:l.length<=1099511627776)(H:Heap)(id a:Nat)(c:ag H id=some (.row false 1 (aF l))):
  BS tb 216 [.ref id l.length 0 l.length,.p (.int .i64 p),.p (.slice b [[.str k]])] H a (.ref id (l.length+1) 0 (l.length+1)) (aC H id (.row false 1 (aF (l.take p++k::l.drop p)))) a:=by
 refine⟨0,?_⟩;have d:tb.A 216=none:=rfl;have e:tb.X=outside:=rfl;have f:(l.length+1)*16<=an:=by simp only[an];omega
 have g:l.length+1<=an:=by simp only[an];omega
 have o:(0:Int)<=p:=ae;have h:(p:Int)<=l.length:=ae;have i:bT 1 [[PV.str k]]=true:=rfl;have j:gb (aF l) [[PV.str k]] p=aF (l.take p++k::l.drop p):=by simp[gb,aF]
 simp only[dQ,d,e];simp[outside,aK.or,oz,oK,FR,nP,tZ,si,EA,c,f,g,h,i,j,au]
def xV(l:List ByteArray):(aF l).take l.length=aF l:=List.take_of_length_le (by rw[au];exact Nat.le_refl _)
def uy{c id:Nat}{b:bq}(h:id<c):∀H:Heap,aD c (aC H id b)=aC (aD c H) id b
 |[]=>rfl
 |(k,v)::r=>by
   simp only[aC,aD];by_cases e:k=id
   .subst e;simp[aD,aC,h]
   .have a:(k==id)=false:=fy.2 e;simp only[a,Bool.false_eq_true,cK,aD];rw[uy h r];by_cases g:k<c
    .rw[aq g,aq g];simp only[aC,a,Bool.false_eq_true,cK]
    .rw[ak g,ak g]
def Ew{c id:Nat}{b:bq}(a:b.below c=true):∀H:Heap,de c H=true->de c (aC H id b)=true
 |[],h=>h
 |(k,v)::r,h=>by
   simp only[aC];simp only[de,aL]at h;by_cases e:(k==id)=true
   .rw[aq e];simp only[de,aL];exact⟨a,h.2⟩
   .rw[ak e];simp only[de,aL];exact⟨h.1,Ew a r h.2⟩
def CJ{id:Nat}{b:bq}:∀{H:Heap},ag H id=some b->aC H id b=H
 |[],h=>by cases h
 |(k,v)::r,h=>by
   simp only[Go.Dv.aC,ag]at h⊢;by_cases e:(k==id)=true
   .rw[aq e]at h⊢;cases h;rfl
   .rw[ak e]at h⊢;rw[CJ h]
def bn.aC{H:Heap}{d id:Nat}{b:bq}(h:bn H d)(hid:id<d)(e:b.below d=true):bn (aC H id b) d:=
 ⟨λc a=>by rw[uy ae,h.ba c a],λc a=>Ew (bq.fM a e) _ (h.al c a),λc a=>by rw[aA,ak ae];exact h.no c a⟩
def I3(l:List ByteArray)(k:ByteArray)(m:eY l)(n:l.length<=1099511627776)(H:Heap)(id c:Nat)(hid:id<c)(h:bn H c)(e:ag H id=some (.row false 1 (aF l))):
  BS tb 177 [.ref id l.length 0 l.length,.p (.str k)] H c (.ref id (ins k l).length 0 (ins k l).length) (aC H id (.row false 1 (aF (ins k l)))) c:=by
 obtain⟨p,a,f⟩:=Jk l k false n m.asc;have o:=a.1;cases g:hasB l k with
 |true=>
  rw[g]at f;rw[TW a g m];refine ib (af:=Ka) rfl rfl ?_;unfold Ka;dsimp only[ai];have i:=CJ e;exact gP (xI h.ba h.al h.no e @au @xV i hid) f k0
 |false=>
  rw[g]at f;rw[UA a g];have q:=Ud l k true p a.1 n H id c e;refine ib (af:=Ka) rfl rfl ?_;unfold Ka;dsimp only[ai];have j:=h.aC (b:=.row false 1 (aF (l.take p++k::l.drop p))) hid rfl;have d:(l.take p++k::l.drop p).length=l.length+1:=by simp;omega
  rw[d];exact gR (qF j.ba j.al j.no e @au @xV hid) f q k0
end
section
open Go Go.Dv
def A3(c:UInt8):Bool:=decide (32<=c.toNat)&&decide (c.toNat<=126)
def lD(s:ByteArray):Bool:=tq s A3&&decide (s.size<=64)
def Am{s:ByteArray}{p:UInt8->Bool}(h:∀(j:Nat) c,j<s.size->s.data[j]?=some c->p c=true):tq s p=true:=by
 unfold tq;rw[List.all_eq_true];intro c b;obtain⟨j,d,rfl⟩:=List.mem_iff_getElem.1 b;have a:j<s.data.size:=by simpa using d
 exact h j _ a (by simp[a])
def pK{s:ByteArray}{p:UInt8->Bool}{j:Nat}{c:UInt8}(h:s.data[j]?=some c)(b:p c=false):tq s p=false:=by
 unfold tq;rw[List.all_eq_false];exact⟨c,by have:=List.mem_of_getElem? (l:=s.data.toList) (i:=j) (a:=c) (by simpa using h);exact this,by simp[b]⟩
def byte_at(s:ByteArray)(i:Nat)(h:i<s.size):∃c,s.data[i]?=some c:=⟨s.data[i]'h,nW h⟩
def Er{c:UInt8}(h:(c.toNat:Int)<32):A3 c=false:=by simp[A3];omega
def CP{c:UInt8}(h:(126:Int)<c.toNat):A3 c=false:=by simp[A3];omega
def DG{c:UInt8}(h:¬(c.toNat:Int)<32)(k:¬(126:Int)<c.toNat):A3 c=true:=by simp[A3];omega
def ML(s:ByteArray)(r:s.size<=1048576):PS tb 123 [.str s] (.bool (lD s)):=by
 refine bD (af:=Us) rfl rfl ?_;unfold Us;dsimp only[List.map,aI,ai];refine ew ?_;refine bL (λm n=>∃i:Nat,i+m=s.size/\(∀(j:Nat) c,j<i->s.data[j]?=some c->A3 c=true)/\n=⟨[(0,.p (.str s)),(3,.p (.int .i64 i))],[],0,[0]⟩) ?_ s.size _ ⟨0,ae,ae,rfl⟩;rintro m n ⟨i,t,o,rfl⟩;refine aH JI.eq_1 ?_;rcases bS i s.size with c|c
 .obtain⟨b,a⟩:=byte_at s i c;have f:(i:Int)<s.size:=ae;have k:(0:Int)<=i:=ae;by_cases g:(b.toNat:Int)<32
  .refine gN (fW f k a g) (k1 ?_);simp[aS,dep,lD,pK a (Er g)]
  .by_cases h:(126:Int)<b.toNat
   .refine gN (dP f k a g h) (k1 ?_);simp[aS,dep,lD,pK a (CP h)]
   .refine gN (dP f k a g h) (k1 ?_);refine LI.next (m':=m-1) ae ⟨i+1,ae,λj d p l=>?_,rfl⟩;by_cases e:j=i
    .subst e;rw[a]at l;cases l;exact DG g h
    .exact o j d ae l
 .have f:¬(i:Int)<s.size:=ae;refine gN f (k1 ?_);have e:tq s A3=true:=Am λj c p q=>o j c ae q
  simp[aS,dep,lD,e];omega
def MK(s:ByteArray)(r:s.size<=1048576):PS tb 112 [.str s] (.bool (lD s)):=by
 refine bD (af:=VK) rfl rfl ?_;unfold VK;dsimp only[List.map,aI,ai];refine ew ?_;refine bL (λm n=>∃i:Nat,i+m=s.size/\(∀(j:Nat) c,j<i->s.data[j]?=some c->A3 c=true)/\n=⟨[(0,.p (.str s)),(3,.p (.int .i64 i))],[],0,[0]⟩) ?_ s.size _ ⟨0,ae,ae,rfl⟩;rintro m n ⟨i,t,o,rfl⟩;refine aH IY.eq_1 ?_;rcases bS i s.size with c|c
 .obtain⟨b,a⟩:=byte_at s i c;have f:(i:Int)<s.size:=ae;have k:(0:Int)<=i:=ae;by_cases g:(b.toNat:Int)<32
  .refine gN (fW f k a g) (k1 ?_);simp[aS,dep,lD,pK a (Er g)]
  .by_cases h:(126:Int)<b.toNat
   .refine gN (dP f k a g h) (k1 ?_);simp[aS,dep,lD,pK a (CP h)]
   .refine gN (dP f k a g h) (k1 ?_);refine LI.next (m':=m-1) ae ⟨i+1,ae,λj d p l=>?_,rfl⟩;by_cases e:j=i
    .subst e;rw[a]at l;cases l;exact DG g h
    .exact o j d ae l
 .have f:¬(i:Int)<s.size:=ae;refine gN f (k1 ?_);have e:tq s A3=true:=Am λj c p q=>o j c ae q
  simp[aS,dep,lD,e];omega
def L4(s:ByteArray)(r:s.size<=1048576):PS tb 265 [.str s] (.bool (lD s)):=by
 refine bD (af:=RQ) rfl rfl ?_;unfold RQ;dsimp only[List.map,aI,ai];refine ew ?_;refine bL (λm n=>∃i:Nat,i+m=s.size/\(∀(j:Nat) c,j<i->s.data[j]?=some c->A3 c=true)/\n=⟨[(0,.p (.str s)),(3,.p (.int .i64 i))],[],0,[0]⟩) ?_ s.size _ ⟨0,ae,ae,rfl⟩;rintro m n ⟨i,t,o,rfl⟩;refine aH Le.eq_1 ?_;rcases bS i s.size with c|c
 .obtain⟨b,a⟩:=byte_at s i c;have f:(i:Int)<s.size:=ae;have k:(0:Int)<=i:=ae;by_cases g:(b.toNat:Int)<32
  .refine gN (fW f k a g) (k1 ?_);simp[aS,dep,lD,pK a (Er g)]
  .by_cases h:(126:Int)<b.toNat
   .refine gN (dP f k a g h) (k1 ?_);simp[aS,dep,lD,pK a (CP h)]
   .refine gN (dP f k a g h) (k1 ?_);refine LI.next (m':=m-1) ae ⟨i+1,ae,λj d p l=>?_,rfl⟩;by_cases e:j=i
    .subst e;rw[a]at l;cases l;exact DG g h
    .exact o j d ae l
 .have f:¬(i:Int)<s.size:=ae;refine gN f (k1 ?_);have e:tq s A3=true:=Am λj c p q=>o j c ae q
  simp[aS,dep,lD,e];omega
def qc(v:dY):Bool:=if v.k=0 then decide (v.n=0)&&decide (v.s=E)else if v.k=1 then decide (v.s=E)else if v.k=2 then decide (v.n=0)&&lD v.s else false
def L8(v:dY)(e:v.s.size<=1048576):PS tb 97 [.agg (jD v)] (.bool (qc v)):=by
 refine bD (af:=Yn) rfl rfl ?_;unfold Yn;dsimp only[List.map,aI,jD,ai];by_cases b:v.k=0
 .by_cases a:v.n=0
  .by_cases c:v.s=⟨#[]⟩
   .refine gN (fW b a c @sd) (k1 ?_);simp[aS,dep,qc,b,a,c,E]
   .refine gN (fW b a c @sd) (k1 ?_);simp[aS,dep,qc,b,a,c,E]
  .refine gN (bA b a) (k1 ?_);simp[aS,dep,qc,b,a]
 .by_cases a:v.k=1
  .refine gN (bA b a) (k1 ?_);simp[aS,dep,qc,b,a,sd,E]
  .by_cases c:v.k=2
   .by_cases d:v.n=0
    .refine gP (fW b a c d) (ML v.s e) (k1 ?_);simp[aS,dep,qc,b,a,c,d]
    .refine gN (fW b a c d) (k1 ?_);simp[aS,dep,qc,b,a,c,d]
   .refine gN (dS b a c) (k1 ?_);simp[aS,dep,qc,b,a,c]
def Wa(l:List Pr)(k:ByteArray)(b:Bool)(o:l.length<=1099511627776):PS tb 233 [.slice b (aT l),.str k] (.agg (jD (cD l k))):=by
 refine bD (af:=a233) rfl rfl ?_;unfold a233;dsimp only[List.map,aI,ai]
 (try simp(disch:=omega) only[go_sem,seval,reduceCtorEq,bh])
 refine bL (λm g=>∃i:Nat,i+m=l.length/\cD l k=cD (l.drop i) k/\g=⟨[(1,.p (.str k)),(4,.ptr 0 0),(7,.p (.slice b (aT l))),(8,.p (.int .i64 l.length)),(9,.p (.int .i64 i))],[(0,.var false [.p (.int .i64 0),.p (.int .i64 0),.p (.str ⟨#[]⟩)])],1,[0]⟩) ?_ l.length _ ⟨0,ae,rfl,rfl⟩;rintro m g ⟨i,p,e,rfl⟩;refine aH Jq.eq_1 ?_;rcases bS i l.length with c|c
 .have a:(i:Int)<l.length:=ae;have h:(0:Int)<=i:=ae;have j:=kc l i c;have n:l.drop i=l[i]::l.drop (i+1):=List.drop_eq_getElem_cons c;by_cases d:l[i].key=k
  .refine gN (dP a h j d @bh) (k1 ?_);have f:cD (l.drop i) k=l[i].v:=by rw[n];unfold cD;rw[List.find?_cons_of_pos (by simp[d])]
   rw[e,f];simp[aS,dep,jD]
  .refine gN (dP a h j d @bh) (k1 ?_);refine LI.next (m':=m-1) ae ⟨i+1,ae,?_,rfl⟩;have f:cD (l.drop i) k=cD (l.drop (i+1)) k:=by rw[n];unfold cD;rw[List.find?_cons_of_neg (by simp[d])]
   rw[e,f]
 .have a:¬(i:Int)<l.length:=ae;refine gN (bA a @bh) (k1 ?_);rw[e,List.drop_eq_nil_of_le c];simp[aS,dep,jD,cD,E]
end
section
open Go Go.Dv
structure Kc where
 sb:Bool
 st:List Pr
 all:Bool
 rb:Bool
 rd:List ByteArray
 wb:Bool
 wr:List ByteArray
def Kc.cz(k:Kc):Cz:=⟨cD k.st,k.all,k.rd,k.wr⟩
def mvV(v:dY):MV:=.agg [.int .i64 v.k,.int .i64 v.n,.str v.s]
def nY(f:VM):SM:=λk=>(f k).map mvV
def pH(f:VM)(k:ByteArray)(v:dY):kn (nY f) k (some (.agg [.int .i64 v.k,.int .i64 v.n,.str v.s]))=nY (pP f k v):=by
 funext j;simp only[kn,nY,pP];split<;>rfl
def CY{f:VM}{k:ByteArray}{v:dY}(h:f k=some v):nY f k=some (.agg [.int .i64 v.k,.int .i64 v.n,.str v.s]):=by simp[nY,h,mvV]
def FG{f:VM}{k:ByteArray}(h:f k=none):nY f k=none:=by simp[nY,h]
def tB(k:Kc)(m:MS):List DV:=[.p (.slice k.sb (aT k.st)),.p (.bool k.all),.p (.slice k.rb (aF k.rd)),.p (.slice k.wb (aF k.wr)),.ptr 4 0,.ptr 5 0,.p (.int .i64 0),.p (.int .i64 0),.ref 7 m.out.length 0 m.out.length,.ref 8 m.reads.length 0 m.reads.length,.ref 9 m.dm.length 0 m.dm.length,.p (.slice true []),.p (.str E),.p (.int .i64 m.steps)]
def mb(T:Heap)(k:Kc)(m:MS):Heap:=(10,.var false [.ptr 6 0])::(9,.row false 1 (aF m.dm))::(8,.row false 1 (aF m.reads))::(7,.row false 3 (cy m.out))::(6,.var false (tB k m))::(5,.map false (.strs m.on (nY m.own)))::(4,.map false (.strs m.vn (nY m.vars)))::T
section
variable{T:Heap}{k:Kc}{m:MS}
def aay:ag (mb T k m) 9=some (.row false 1 (aF m.dm)):=rfl
def aaq:ag (mb T k m) 8=some (.row false 1 (aF m.reads)):=rfl
def aaJ:ag (mb T k m) 7=some (.row false 3 (cy m.out)):=rfl
def aas:ag (mb T k m) 6=some (.var false [.p (.slice k.sb (aT k.st)),.p (.bool k.all),.p (.slice k.rb (aF k.rd)),.p (.slice k.wb (aF k.wr)),.ptr 4 0,.ptr 5 0,.p (.int .i64 0),.p (.int .i64 0),.ref 7 m.out.length 0 m.out.length,.ref 8 m.reads.length 0 m.reads.length,.ref 9 m.dm.length 0 m.dm.length,.p (.slice true []),.p (.str E),.p (.int .i64 m.steps)]):=rfl
def aaA:ag (mb T k m) 5=some (.map false (.strs m.on (nY m.own))):=rfl
def aaR:ag (mb T k m) 4=some (.map false (.strs m.vn (nY m.vars))):=rfl
end
attribute [go_sem] aay aaq aaJ aas aaA aaR
def dK{L M:Heap}{i:Nat}(h:ag L i=none):ag (L++M) i=ag M i:=by
 induction L with
 |nil=>rfl
 |cons x r a=>
  simp only[ag,List.cons_append]at h⊢;split at h
  .cases h
  .rename_i e;rw[ak e];exact a h
def iO{L M:Heap}{i:Nat}{b:bq}(h:ag L i=none):aC (L++M) i b=L++aC M i b:=by
 induction L with
 |nil=>rfl
 |cons x r a=>
  simp only[ag,List.cons_append,aC]at h⊢;split at h
  .cases h
  .rename_i e;rw[ak e,a h]
def ky(c:Nat)(M:Heap):∀L:Heap,aD c (L++M)=aD c L++aD c M
 |[]=>rfl
 |(k,b)::r=>by simp only[List.cons_append,aD];split<;>simp[ky c M r]
def pD(c:Nat)(M:Heap):∀L:Heap,de c (L++M)=(de c L&&de c M)
 |[]=>by simp[de]
 |(k,b)::r=>by simp[de,pD c M r,Bool.and_assoc]
structure je(L T:Heap)(nx:Nat):Prop where
 ge:11<=nx
 ba:∀c,nx<=c->aD c L=L
 al:∀c,nx<=c->de c L=true
 no:∀c,nx<=c\/c<=10->ag L c=none
 bt:∀c,4<=c->aD c T=T
 lt:∀c,4<=c->de c T=true
 nt:∀c,4<=c->ag T c=none
section
variable{L T:Heap}{nx:Nat}
def je.ml(h:je L T nx)(k:Kc)(m:MS):bn (L++mb T k m) nx:=by
 have l:=h.ge;refine⟨λc a=>?_,λc a=>?_,λc a=>?_⟩
 .rw[ky,h.ba c a];have j:10<c:=ae;have b:9<c:=ae;have d:8<c:=ae;have e:7<c:=ae;have f:6<c:=ae;have g:5<c:=ae;have i:4<c:=ae;simp only[mb,aD,j,b,d,e,f,g,i,cQ,h.bt c ae]
 .rw[pD,h.al c a];have b:9<c:=ae;have d:8<c:=ae;have e:7<c:=ae;have f:6<c:=ae;have g:5<c:=ae;have i:4<c:=ae;simp[mb,de,bq.below,below,dep,tB,b,d,e,f,g,i,h.lt c ae]
 .rw[dK (h.no c (.inl a))];have j:(10==c)=false:=fy.2 ae;have b:(9==c)=false:=fy.2 ae;have d:(8==c)=false:=fy.2 ae;have e:(7==c)=false:=fy.2 ae;have f:(6==c)=false:=fy.2 ae;have g:(5==c)=false:=fy.2 ae;have i:(4==c)=false:=fy.2 ae;simp[mb,ag,j,b,d,e,f,g,i,h.nt c ae]
def je.cons{b:bq}(h:je L T nx)(d:b.below (nx+1)=true:=by rfl):je ((nx,b)::L) T (nx+1):=by
 have e:=h.ge;exact⟨ae,λc a=>by rw[aD,aq ae,h.ba c ae],λc a=>by simp only[de,aL];exact⟨bq.fM a d,h.al c ae⟩,
  λc a=>by rw[aw,ak ae];exact h.no c ae,h.bt,h.lt,h.nt⟩
def je.g(h:je L T nx)(M:Heap):∀c,c<=10->ag (L++M) c=ag M c:=λc a=>dK (h.no c (.inr a))
def je.s(h:je L T nx)(M:Heap):∀c,c<=10->∀b,aC (L++M) c b=L++aC M c b:=λc a b=>iO (h.no c (.inr a))
def je.ex(h:je L T nx):∃x,nx=x+11:=⟨nx-11,by have:=h.ge;omega⟩
structure LF(L T:Heap)(k:Kc)(x:Nat):Prop where
 n0:∀m,ag (L++mb T k m) (x+11)=none
 n1:∀m,ag (L++mb T k m) (x+12)=none
 n2:∀m,ag (L++mb T k m) (x+13)=none
 n3:∀m,ag (L++mb T k m) (x+14)=none
 n4:∀m,ag (L++mb T k m) (x+15)=none
 b0:∀m,aD (x+11) (L++mb T k m)=L++mb T k m
 l0:∀m,de (x+11) (L++mb T k m)=true
 b1:∀m,aD (x+12) (L++mb T k m)=L++mb T k m
 l1:∀m,de (x+12) (L++mb T k m)=true
 b2:∀m,aD (x+13) (L++mb T k m)=L++mb T k m
 l2:∀m,de (x+13) (L++mb T k m)=true
 b3:∀m,aD (x+14) (L++mb T k m)=L++mb T k m
 l3:∀m,de (x+14) (L++mb T k m)=true
 g4:∀m,ag (L++mb T k m) 4=some (.map false (.strs m.vn (nY m.vars)))
 g5:∀m,ag (L++mb T k m) 5=some (.map false (.strs m.on (nY m.own)))
 g6:∀m,ag (L++mb T k m) 6=some (.var false [.p (.slice k.sb (aT k.st)),.p (.bool k.all),.p (.slice k.rb (aF k.rd)),.p (.slice k.wb (aF k.wr)),.ptr 4 0,.ptr 5 0,.p (.int .i64 0),.p (.int .i64 0),.ref 7 m.out.length 0 m.out.length,.ref 8 m.reads.length 0 m.reads.length,.ref 9 m.dm.length 0 m.dm.length,.p (.slice true []),.p (.str E),.p (.int .i64 m.steps)])
 g7:∀m,ag (L++mb T k m) 7=some (.row false 3 (cy m.out))
 g8:∀m,ag (L++mb T k m) 8=some (.row false 1 (aF m.reads))
 g9:∀m,ag (L++mb T k m) 9=some (.row false 1 (aF m.dm))
def LF.q{x:Nat}{k:Kc}(h:LF L T k x):=Cj h.n0<|Cj h.n1<|Cj h.n2<|Cj h.n3<|Cj h.n4<|Cj h.b0<|Cj h.b1<|Cj h.b2<|Cj h.b3<|Cj h.l0<|Cj h.l1<|Cj h.l2<|Cj h.l3<|Cj h.g4<|Cj h.g5<|Cj h.g6<|Cj h.g7<|Cj h.g8 h.g9
def je.lf{x:Nat}(h:je L T (x+11))(k:Kc):LF L T k x where
 n0:=λm=>(h.ml k m).no _ ae
 n1:=λm=>(h.ml k m).no _ ae
 n2:=λm=>(h.ml k m).no _ ae
 n3:=λm=>(h.ml k m).no _ ae
 n4:=λm=>(h.ml k m).no _ ae
 b0:=λm=>(h.ml k m).ba _ ae
 l0:=λm=>(h.ml k m).al _ ae
 b1:=λm=>(h.ml k m).ba _ ae
 l1:=λm=>(h.ml k m).al _ ae
 b2:=λm=>(h.ml k m).ba _ ae
 l2:=λm=>(h.ml k m).al _ ae
 b3:=λm=>(h.ml k m).ba _ ae
 l3:=λm=>(h.ml k m).al _ ae
 g4:=λm=>by rw[h.g _ 4 ae];rfl
 g5:=λm=>by rw[h.g _ 5 ae];rfl
 g6:=λm=>by rw[h.g _ 6 ae];rfl
 g7:=λm=>by rw[h.g _ 7 ae];rfl
 g8:=λm=>by rw[h.g _ 8 ae];rfl
 g9:=λm=>by rw[h.g _ 9 ae];rfl
def cM{e:Type}(L T:Heap)(k:Kc)(nx:Nat)(d:e->DV)(r:Rs e):Q:=match r with
 | .ok a m=>.inl (d a,L++mb T k m,nx)
 | .no f c b m=>.inr (te f c b,L++mb T k m)
def bF{b:Type}{k:Kc}{d:b->DV}{r:Rs b}{f:FuncId}{l:List DV}{H:Heap}{a:b}{m:MS}(h:CS tb f l H nx (cM L T k nx d r))(e:r=.ok a m):CS tb f l H nx (.inl (d a,L++mb T k m,nx)):=by subst e;exact h
def fH{b:Type}{k:Kc}{d:b->DV}{r:Rs b}{f:FuncId}{l:List DV}{H:Heap}{g c:Int}{a:ByteArray}{m:MS}(h:CS tb f l H nx (cM L T k nx d r))(e:r=.no g c a m):CS tb f l H nx (.inr (te g c a,L++mb T k m)):=by subst e;exact h
abbrev CQ(_:Unit):DV:=.tuple []
def J3(k:Kc)(m:MS)(h:je L T nx)(d:0<=m.steps)(f:m.steps<=16384):CS tb 117 [.ptr 6 0] (L++mb T k m) nx (cM L T k nx CQ (lN m)):=by
 have b:=h.ml k;have e:aC (L++mb T k m) 6 (.var false (tB k {m with steps:=m.steps+1}))=L++mb T k {m with steps:=m.steps+1}:=by rw[h.s _ 6 ae];rfl
 simp only[tB]at e;unfold lN;by_cases c:16384<m.steps+1
 .simp only[aq c,b9,cM];refine hZ (af:=a117) rfl rfl ?_;unfold a117;dsimp only[ai];exact gD (vE (λa=>(b a).ba) (λa=>(b a).al) (λa=>(b a).no) h.g e c) trivial trivial (λ{a}=>gL 1008 (b a)) k0
 .simp only[ak c,cM];refine hZ (af:=a117) rfl rfl ?_;unfold a117;dsimp only[ai];exact gN (vE (λa=>(b a).ba) (λa=>(b a).al) (λa=>(b a).no) h.g e c) k0
end
end
section
open Go Go.Dv
def Mo(l:List ByteArray)(k:ByteArray)(b:Bool)(s:l.length<=1048576)(K:Ex->St->Prop)(h:(∀j,j<l.length->(λj=>!decide (l.getD j E=k)) j=true)->K (.exit 0) ⟨[],[],0,[0]⟩)
  (n:∀i,i<l.length->(λj=>!decide (l.getD j E=k)) i=false->∀e,ag e.env 4=some (.p (.int .i64 i))->K .ret e):∀(m i:Nat),i+m=l.length->(∀j,j<i->(λj=>!decide (l.getD j E=k)) j=true)->
  W tb py ⟨[(0,.p (.slice b (aF l))),(1,.p (.str k)),(7,.p (.int .i64 l.length)),(8,.p (.int .i64 i))],[],0,[0]⟩ (LK tb (.ghost .lower py) K):=by
 intro m;induction m with
 |zero=>
  intro i o a;have c:¬(i:Int)<l.length:=ae;refine aH py.eq_1 ?_;refine gN (bA c @au) (k1 ?_);exact h (λj t=>a j ae)
 |succ m p=>
  intro i o a;have c:(i:Int)<l.length:=ae;have d:i<l.length:=ae;have q:(0:Int)<=i:=ae;have r:=dN l i d;have f:decide (l.getD i E=k)=decide (k=l[i]):=by rw[bW l i d];exact wD.2 eq_comm
  refine aH py.eq_1 ?_;refine hN (fW c q @au r) (k2 ?_ ?_)<;>(repeat with_reducible intro g)
  all_goals first
   |(exfalso;omega)
   |exact n i d (by(try dsimp only);rw[f];simp[g]) _ rfl
   |(refine fJ (aU ?_)
     (try simp(disch:=omega) only[go_sem,seval,reduceCtorEq,au])
     exact p (i+1) ae (nC a (by(try dsimp only);rw[f];simp[g])))
def Kv(l:List ByteArray)(k:ByteArray)(b:Bool)(e:l.length<=1048576):∃n:Int,PS tb 78 [.slice b (aF l),.str k] (.int .i64 n)/\decide (0<=n)=hasB l k:=by
 have w:W tb Hq.body {env:=ai 0 ([PV.slice b (aF l),PV.str k].map aI),heap:=[],next:=0,marks:=[0]} (eX Hq.results λv s=>∃n:{n:Int//decide (0<=n)=hasB l k},aS s.heap dep v=some (.int .i64 n.1)):=by
  unfold Hq;dsimp only[List.map,aI,ai]
  (try simp(disch:=omega) only[go_sem,seval,reduceCtorEq,au])
  refine aU ?_;refine ew ?_;refine Mo l k b e _ ?_ ?_ l.length 0 ae (λj h=>ae)
  .intro g;refine ew ?_;have:k∉l:=by
    intro m;obtain⟨i,a,rfl⟩:=List.mem_iff_getElem.1 m;have:=g i a;dsimp only at this;rw[bW l i a]at this;simp at this
   exact⟨⟨-1,by rw[iY.2 this];rfl⟩,rfl⟩
  .intro i a c p d
   (try simp(disch:=omega) only[go_sem,seval,reduceCtorEq,d])
   have:k∈l:=by
    dsimp only at c;rw[bW l i a]at c;simp at c;rw[<-c];exact List.getElem_mem a
   exact⟨⟨i,by rw[ej.2 this];simp⟩,rfl⟩
 obtain⟨⟨n,o⟩,h⟩:=jg (T:=tb) (f:=78) (af:=Hq) rfl rfl w;exact⟨n,h,o⟩
def qA(l:List ByteArray)(k:ByteArray)(b:Bool)(a:l.length<=1048576):PS tb 45 [.slice b (aF l),.str k] (.bool (hasB l k)):=by
 obtain⟨n,c,d⟩:=Kv l k b a;refine bD (af:=UF) rfl rfl ?_;unfold UF;dsimp only[List.map,aI,ai];exact gP d c k0
end
end Go.Dv.Tryz
