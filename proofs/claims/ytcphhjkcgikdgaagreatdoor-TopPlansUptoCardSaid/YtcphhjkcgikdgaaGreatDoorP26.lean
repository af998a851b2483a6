/- Lemmas for the law of this claim. -/
import Derived.Test.YtcphhjkcgikdgaaGreatDoorP25
set_option linter.all false
set_option maxRecDepth 100000
set_option maxHeartbeats 4000000
namespace Go.Dv.Tryz
section
open Go Go.Dv
def Ql(l:List ByteArray)(k:ByteArray)(p:Nat):Prop:=p<=l.length/\(∀x,x<p->slt (l.getD x E) k=true)/\(∀x,p<=x->x<l.length->slt (l.getD x E) k=false)
def Lj(l:List ByteArray)(k:ByteArray)(b:Bool)(B:l.length<=1099511627776)(r:EM l)(K:Ex->St->Prop)
  (e:∀p,p<=l.length->(∀x,x<p->slt (l.getD x E) k=true)->(∀x,p<=x->x<l.length->slt (l.getD x E) k=false)->K (.exit 0) ⟨[(0,.p (.slice b (aA l))),(1,.p (.str k)),(6,.p (.int .i64 l.length)),(7,.p (.int .i64 p))],[],0,[0]⟩):
  ∀(m i j:Nat),j-i<=m->i<=j->j<=l.length->(∀x,x<i->slt (l.getD x E) k=true)->(∀x,j<=x->x<l.length->slt (l.getD x E) k=false)->
  W tb uE ⟨[(0,.p (.slice b (aA l))),(1,.p (.str k)),(6,.p (.int .i64 l.length)),(7,.p (.int .i64 i)),(8,.p (.int .i64 j))],[],0,[0]⟩ (LK tb (.ghost .lower uE) K):=by
 intro m;induction m with
 |zero=>
  intro i j t o f g h;obtain rfl:i=j:=ae;have a:¬(i:Int)<i:=ae;refine bq uE.eq_1 ?_
  (try simp(disch:=omega) only[go_sem,seval,reduceCtorEq,a])
  exact e i f g h
 |succ m s=>
  intro i j t o f g h;by_cases u:i<j
  .have a:(i:Int)<j:=ae;have v:(i:Int)+(j:Int)=((i+j:Nat):Int):=ae;have w:=PU (i+j);have q:(i+j)/2<l.length:=ae;have y:=jN l _ q;have z:(0:Int)<=(((i+j)/2:Nat):Int):=ae;refine bq uE.eq_1 ?_;refine hP (pS a v w y z Go.IntWalk.u64_in) (λ{A}=>Tw A k) (k2 ?_ ?_)<;>(repeat with_reducible intro n)
   .refine rn (dY ?_);refine nJ ?_;refine s ((i+j)/2+1) j ae ae f (λx e=>?_) h;rw[dE l x ae];rcases cK x ((i+j)/2)with c|c
    .exact Av ((List.pairwise_iff_getElem.1 r) x _ ae q c) n
    .have:x=(i+j)/2:=ae;subst this;exact n
   .refine rn (dY ?_);refine nJ ?_;refine s i ((i+j)/2) ae ae ae g (λx e d=>?_);rw[dE l x d];rcases cK ((i+j)/2) x with c|c
    .exact CF (by simpa using n) ((List.pairwise_iff_getElem.1 r) _ x q d c)
    .have:x=(i+j)/2:=ae;subst this;simpa using n
  .obtain rfl:i=j:=ae;have a:¬(i:Int)<i:=ae;refine bq uE.eq_1 ?_
   (try simp(disch:=omega) only[go_sem,seval,reduceCtorEq,a])
   exact e i f g h
def Lb(l:List ByteArray)(k:ByteArray)(b:Bool)(B:l.length<=1099511627776)(r:EM l):∃p:Nat,Ql l k p/\PS tb 99 [.slice b (aA l),.str k] (.tuple [.int .i64 p,.bool (hasB l k)]):=by
 have w:W tb VC.body {env:=aj 0 ([PV.slice b (aA l),PV.str k].map aQ),heap:=[],next:=0,marks:=[0]} (ic VC.results λv s=>∃q:{p:Nat//Ql l k p},bE s.heap dep v=some (.tuple [.int .i64 q.1,.bool (hasB l k)])):=by
  unfold VC;dsimp only[List.map,aQ,aj]
  (try simp(disch:=omega) only[go_sem,seval,reduceCtorEq,aE])
  refine dY ?_;refine nJ ?_;refine Lj l k b B r _ ?_ l.length 0 l.length ae ae (Nat.le_refl _) (λx h=>ae) (λx h F=>ae);intro p C m t;have c:Ql l k p:=⟨C,m,t⟩;by_cases a:p<l.length
  .have i:(p:Int)<l.length:=ae;have u:=jN l _ a;have y:(0:Int)<=p:=ae;by_cases d:l[p]=k
   .have e:hasB l k=true:=gp.2 (by rw[<-d];exact List.getElem_mem a);refine gP (eY i u y d) (λ{n}=>Cb n) (k1 ?_);exact⟨⟨p,c⟩,by simp[bE,dep,cl,e]⟩
   .have e:hasB l k=false:=by
     rw[wG];intro o;obtain⟨x,j,rfl⟩:=List.mem_iff_getElem.1 o;have g:=t p (Nat.le_refl _) a;rw[dE l p a]at g;rcases cK x p with z|z
     .have:=m x z;rw[dE l x j,mu]at this;cases this
     .rcases cK p x with A|A
      .have D:=(List.pairwise_iff_getElem.1 r) p x a j A;exact d (mR g D)
      .have:x=p:=ae;subst this;exact d rfl
    refine gP (eY i u y d) (λ{n}=>Cb n) (k1 ?_);exact⟨⟨p,c⟩,by simp[bE,dep,cl,e]⟩
  .have i:¬(p:Int)<l.length:=ae;have e:hasB l k=false:=by
    rw[wG];intro o;obtain⟨x,j,rfl⟩:=List.mem_iff_getElem.1 o;have:=m x ae;rw[dE l x j,mu]at this;cases this
   refine gN i (k1 ?_);exact⟨⟨p,c⟩,by simp[bE,dep,cl,e]⟩
 obtain⟨q,E⟩:=nq (f:=99) rfl rfl w;exact⟨q.1,q.2,E⟩
def dx.asc{l:List ByteArray}(h:dx l):EM l:=List.Pairwise.imp (λh=>rO h) h
def IM{l:List ByteArray}{k:ByteArray}{p:Nat}(h:Ql l k p):p=pos k l:=by
 obtain⟨g,d,e⟩:=h;have f:=BI k l;rcases LZ p (pos k l)with c|c|c
 .have a:=e p (Nat.le_refl _) ae;have b:=Hl k l p c;rw[b]at a;cases a
 .exact c
 .have a:=d (pos k l) c;have b:=pos_at k l ae;rw[b]at a;cases a
def Tn{l:List ByteArray}{k:ByteArray}{p:Nat}(h:Ql l k p)(d:hasB l k=true)(f:dx l):ins k l=l:=by
 have g:=IM h;obtain⟨n,j,m⟩:=h;unfold ins;rw[aq];obtain⟨i,b,rfl⟩:=List.mem_iff_getElem.1 (gp.1 d);have e:p=i:=by
  rcases LZ p i with c|c|c
  .have a:=m p (Nat.le_refl _) ae;rw[dE l p ae,(List.pairwise_iff_getElem.1 f) p i ae b c]at a;cases a
  .exact c
  .have a:=j i c;rw[dE l i b,mu]at a;cases a
 rw[<-g,e];exact⟨b,dE l i b⟩
def R3{l:List ByteArray}{k:ByteArray}{p:Nat}(h:Ql l k p)(c:hasB l k=false):ins k l=l.take p++k::l.drop p:=by
 have d:=IM h;unfold ins;rw[an,<-d,List.append_assoc,List.singleton_append];rintro⟨a,b⟩;rw[dE l _ a]at b;have:k∈l:=by rw[<-b];exact List.getElem_mem a
 rw[<-gp,c]at this;cases this
def Rv(l:List ByteArray)(k:ByteArray)(b:Bool)(p:Nat)(m:p<=l.length)(n:l.length<=1099511627776)(H:Heap)(id a:Nat)(c:ah H id=some (.row false 1 (aA l))):
  BS tb 216 [.ref id l.length 0 l.length,.p (.int .i64 p),.p (.slice b [[.str k]])] H a (.ref id (l.length+1) 0 (l.length+1)) (aH H id (.row false 1 (aA (l.take p++k::l.drop p)))) a:=by
 refine⟨0,?_⟩;have d:tb.A 216=none:=rfl;have e:tb.X=outside:=rfl;have f:(l.length+1)*16<=ak:=by simp only[ak];omega
 have g:l.length+1<=ak:=by simp only[ak];omega
 have o:(0:Int)<=p:=ae;have h:(p:Int)<=l.length:=ae;have i:bV 1 [[PV.str k]]=true:=rfl;have j:gq (aA l) [[PV.str k]] p=aA (l.take p++k::l.drop p):=by simp[gq,aA]
 simp only[dG,d,e];simp[outside,aI.or,ln,pg,E4,nN,AI,nO,Ll,c,f,g,h,i,j,aE]
def xQ(l:List ByteArray):(aA l).take l.length=aA l:=List.take_of_length_le (by rw[aE];exact Nat.le_refl _)
def tR{c id:Nat}{b:ca}(h:id<c):∀H:Heap,az c (aH H id b)=aH (az c H) id b
 |[]=>rfl
 |(k,v)::r=>by
   simp only[aH,az];by_cases e:k=id
   .subst e;simp[az,aH,h]
   .have a:(k==id)=false:=er.2 e;simp only[a,Bool.false_eq_true,cy,az];rw[tR h r];by_cases g:k<c
    .rw[aq g,aq g];simp only[aH,a,Bool.false_eq_true,cy]
    .rw[an g,an g]
def DA{c id:Nat}{b:ca}(a:b.below c=true):∀H:Heap,cL c H=true->cL c (aH H id b)=true
 |[],h=>h
 |(k,v)::r,h=>by
   simp only[aH];simp only[cL,aO]at h;by_cases e:(k==id)=true
   .rw[aq e];simp only[cL,aO];exact⟨a,h.2⟩
   .rw[an e];simp only[cL,aO];exact⟨h.1,DA a r h.2⟩
def Cr{id:Nat}{b:ca}:∀{H:Heap},ah H id=some b->aH H id b=H
 |[],h=>by cases h
 |(k,v)::r,h=>by
   simp only[Go.Dv.aH,ah]at h⊢;by_cases e:(k==id)=true
   .rw[aq e]at h⊢;cases h;rfl
   .rw[an e]at h⊢;rw[Cr h]
def bu.aH{H:Heap}{d id:Nat}{b:ca}(h:bu H d)(hid:id<d)(e:b.below d=true):bu (aH H id b) d:=
 ⟨λc a=>by rw[tR ae,h.ba c a],λc a=>DA (ca.fu a e) _ (h.al c a),λc a=>by rw[bn,an ae];exact h.no c a⟩
def JQ(l:List ByteArray)(k:ByteArray)(m:dx l)(n:l.length<=1099511627776)(H:Heap)(id c:Nat)(hid:id<c)(h:bu H c)(e:ah H id=some (.row false 1 (aA l))):
  BS tb 177 [.ref id l.length 0 l.length,.p (.str k)] H c (.ref id (ins k l).length 0 (ins k l).length) (aH H id (.row false 1 (aA (ins k l)))) c:=by
 obtain⟨p,a,f⟩:=Lb l k false n m.asc;have o:=a.1;cases g:hasB l k with
 |true=>
  rw[g]at f;rw[Tn a g m];refine cH (af:=Ih) rfl rfl ?_;unfold Ih;dsimp only[aj];have i:=Cr e;exact gP (Gg h.ba h.al h.no e @aE @xQ i hid) f k0
 |false=>
  rw[g]at f;rw[R3 a g];have q:=Rv l k true p a.1 n H id c e;refine cH (af:=Ih) rfl rfl ?_;unfold Ih;dsimp only[aj];have j:=h.aH (b:=.row false 1 (aA (l.take p++k::l.drop p))) hid rfl;have d:(l.take p++k::l.drop p).length=l.length+1:=by simp;omega
  rw[d];exact gR (uU j.ba j.al j.no e @aE @xQ hid) f q k0
end
section
open Go Go.Dv
def sU(c:UInt8):Bool:=decide (32<=c.toNat)&&decide (c.toNat<=126)
def ga(s:ByteArray):Bool:=mc s sU&&decide (s.size<=64)
def zX{s:ByteArray}{p:UInt8->Bool}(h:∀(j:Nat) c,j<s.size->s.data[j]?=some c->p c=true):mc s p=true:=by
 unfold mc;rw[List.all_eq_true];intro c b;obtain⟨j,d,rfl⟩:=List.mem_iff_getElem.1 b;have a:j<s.data.size:=by simpa using d
 exact h j _ a (by simp[a])
def oZ{s:ByteArray}{p:UInt8->Bool}{j:Nat}{c:UInt8}(h:s.data[j]?=some c)(b:p c=false):mc s p=false:=by
 unfold mc;rw[List.all_eq_false];exact⟨c,by have:=List.mem_of_getElem? (l:=s.data.toList) (i:=j) (a:=c) (by simpa using h);exact this,by simp[b]⟩
def byte_at(s:ByteArray)(i:Nat)(h:i<s.size):∃c,s.data[i]?=some c:=⟨s.data[i]'h,ni h⟩
def Cg{c:UInt8}(h:(c.toNat:Int)<32):sU c=false:=by simp[sU];omega
def Cd{c:UInt8}(h:(126:Int)<c.toNat):sU c=false:=by simp[sU];omega
def B7{c:UInt8}(h:¬(c.toNat:Int)<32)(k:¬(126:Int)<c.toNat):sU c=true:=by simp[sU];omega
def Lm(s:ByteArray)(r:s.size<=1048576):PS tb 123 [.str s] (.bool (ga s)):=by
 refine bM (af:=Th) rfl rfl ?_;unfold Th;dsimp only[List.map,aQ,aj];refine nJ ?_;refine bU (λm n=>∃i:Nat,i+m=s.size/\(∀(j:Nat) c,j<i->s.data[j]?=some c->sU c=true)/\n=⟨[(0,.p (.str s)),(3,.p (.int .i64 i))],[],0,[0]⟩) ?_ s.size _ ⟨0,ae,ae,rfl⟩;rintro m n ⟨i,t,o,rfl⟩;refine bq J7.eq_1 ?_;rcases cK i s.size with c|c
 .obtain⟨b,a⟩:=byte_at s i c;have f:(i:Int)<s.size:=ae;have k:(0:Int)<=i:=ae;by_cases g:(b.toNat:Int)<32
  .refine gN (eY f k a g) (k1 ?_);simp[bE,dep,ga,oZ a (Cg g)]
  .by_cases h:(126:Int)<b.toNat
   .refine gN (dM f k a g h) (k1 ?_);simp[bE,dep,ga,oZ a (Cd h)]
   .refine gN (dM f k a g h) (k1 ?_);refine LI.next (m':=m-1) ae ⟨i+1,ae,λj d p l=>?_,rfl⟩;by_cases e:j=i
    .subst e;rw[a]at l;cases l;exact B7 g h
    .exact o j d ae l
 .have f:¬(i:Int)<s.size:=ae;refine gN f (k1 ?_);have e:mc s sU=true:=zX λj c p q=>o j c ae q
  simp[bE,dep,ga,e];omega
def MO(s:ByteArray)(r:s.size<=1048576):PS tb 112 [.str s] (.bool (ga s)):=by
 refine bM (af:=TZ) rfl rfl ?_;unfold TZ;dsimp only[List.map,aQ,aj];refine nJ ?_;refine bU (λm n=>∃i:Nat,i+m=s.size/\(∀(j:Nat) c,j<i->s.data[j]?=some c->sU c=true)/\n=⟨[(0,.p (.str s)),(3,.p (.int .i64 i))],[],0,[0]⟩) ?_ s.size _ ⟨0,ae,ae,rfl⟩;rintro m n ⟨i,t,o,rfl⟩;refine bq Ld.eq_1 ?_;rcases cK i s.size with c|c
 .obtain⟨b,a⟩:=byte_at s i c;have f:(i:Int)<s.size:=ae;have k:(0:Int)<=i:=ae;by_cases g:(b.toNat:Int)<32
  .refine gN (eY f k a g) (k1 ?_);simp[bE,dep,ga,oZ a (Cg g)]
  .by_cases h:(126:Int)<b.toNat
   .refine gN (dM f k a g h) (k1 ?_);simp[bE,dep,ga,oZ a (Cd h)]
   .refine gN (dM f k a g h) (k1 ?_);refine LI.next (m':=m-1) ae ⟨i+1,ae,λj d p l=>?_,rfl⟩;by_cases e:j=i
    .subst e;rw[a]at l;cases l;exact B7 g h
    .exact o j d ae l
 .have f:¬(i:Int)<s.size:=ae;refine gN f (k1 ?_);have e:mc s sU=true:=zX λj c p q=>o j c ae q
  simp[bE,dep,ga,e];omega
def MQ(s:ByteArray)(r:s.size<=1048576):PS tb 265 [.str s] (.bool (ga s)):=by
 refine bM (af:=S0) rfl rfl ?_;unfold S0;dsimp only[List.map,aQ,aj];refine nJ ?_;refine bU (λm n=>∃i:Nat,i+m=s.size/\(∀(j:Nat) c,j<i->s.data[j]?=some c->sU c=true)/\n=⟨[(0,.p (.str s)),(3,.p (.int .i64 i))],[],0,[0]⟩) ?_ s.size _ ⟨0,ae,ae,rfl⟩;rintro m n ⟨i,t,o,rfl⟩;refine bq J3.eq_1 ?_;rcases cK i s.size with c|c
 .obtain⟨b,a⟩:=byte_at s i c;have f:(i:Int)<s.size:=ae;have k:(0:Int)<=i:=ae;by_cases g:(b.toNat:Int)<32
  .refine gN (eY f k a g) (k1 ?_);simp[bE,dep,ga,oZ a (Cg g)]
  .by_cases h:(126:Int)<b.toNat
   .refine gN (dM f k a g h) (k1 ?_);simp[bE,dep,ga,oZ a (Cd h)]
   .refine gN (dM f k a g h) (k1 ?_);refine LI.next (m':=m-1) ae ⟨i+1,ae,λj d p l=>?_,rfl⟩;by_cases e:j=i
    .subst e;rw[a]at l;cases l;exact B7 g h
    .exact o j d ae l
 .have f:¬(i:Int)<s.size:=ae;refine gN f (k1 ?_);have e:mc s sU=true:=zX λj c p q=>o j c ae q
  simp[bE,dep,ga,e];omega
def me(v:bX):Bool:=if v.k=0 then decide (v.n=0)&&decide (v.s=E)else if v.k=1 then decide (v.s=E)else if v.k=2 then decide (v.n=0)&&ga v.s else false
def CH(v:bX)(e:v.s.size<=1048576):PS tb 97 [.agg (gB v)] (.bool (me v)):=by
 refine bM (af:=YH) rfl rfl ?_;unfold YH;dsimp only[List.map,aQ,gB,aj];by_cases b:v.k=0
 .by_cases a:v.n=0
  .by_cases c:v.s=⟨#[]⟩
   .refine gN (eY b a c @rh) (k1 ?_);simp[bE,dep,me,b,a,c,E]
   .refine gN (eY b a c @rh) (k1 ?_);simp[bE,dep,me,b,a,c,E]
  .refine gN (bf b a) (k1 ?_);simp[bE,dep,me,b,a]
 .by_cases a:v.k=1
  .refine gN (bf b a) (k1 ?_);simp[bE,dep,me,b,a,rh,E]
  .by_cases c:v.k=2
   .by_cases d:v.n=0
    .refine gP (eY b a c d) (Lm v.s e) (k1 ?_);simp[bE,dep,me,b,a,c,d]
    .refine gN (eY b a c d) (k1 ?_);simp[bE,dep,me,b,a,c,d]
   .refine gN (c9 b a c) (k1 ?_);simp[bE,dep,me,b,a,c]
def VJ(l:List Pr)(k:ByteArray)(b:Bool)(o:l.length<=1099511627776):PS tb 233 [.slice b (bm l),.str k] (.agg (gB (cX l k))):=by
 refine bM (af:=a233) rfl rfl ?_;unfold a233;dsimp only[List.map,aQ,aj]
 (try simp(disch:=omega) only[go_sem,seval,reduceCtorEq,bK])
 refine bU (λm g=>∃i:Nat,i+m=l.length/\cX l k=cX (l.drop i) k/\g=⟨[(1,.p (.str k)),(4,.ptr 0 0),(7,.p (.slice b (bm l))),(8,.p (.int .i64 l.length)),(9,.p (.int .i64 i))],[(0,.var false [.p (.int .i64 0),.p (.int .i64 0),.p (.str ⟨#[]⟩)])],1,[0]⟩) ?_ l.length _ ⟨0,ae,rfl,rfl⟩;rintro m g ⟨i,p,e,rfl⟩;refine bq KU.eq_1 ?_;rcases cK i l.length with c|c
 .have a:(i:Int)<l.length:=ae;have h:(0:Int)<=i:=ae;have j:=jS l i c;have n:l.drop i=l[i]::l.drop (i+1):=List.drop_eq_getElem_cons c;by_cases d:l[i].key=k
  .refine gN (dM a h j d @bK) (k1 ?_);have f:cX (l.drop i) k=l[i].v:=by rw[n];unfold cX;rw[List.find?_cons_of_pos (by simp[d])]
   rw[e,f];simp[bE,dep,gB]
  .refine gN (dM a h j d @bK) (k1 ?_);refine LI.next (m':=m-1) ae ⟨i+1,ae,?_,rfl⟩;have f:cX (l.drop i) k=cX (l.drop (i+1)) k:=by rw[n];unfold cX;rw[List.find?_cons_of_neg (by simp[d])]
   rw[e,f]
 .have a:¬(i:Int)<l.length:=ae;refine gN (bf a @bK) (k1 ?_);rw[e,List.drop_eq_nil_of_le c];simp[bE,dep,gB,cX,E]
end
section
open Go Go.Dv
structure Kc where
 sb:Bool
 st:List Pr
 all:Bool
 rb:Bool
 rd:List ByteArray
 wb:Bool
 wr:List ByteArray
def Kc.cz(k:Kc):Cz:=⟨cX k.st,k.all,k.rd,k.wr⟩
def mvV(v:bX):MV:=.agg [.int .i64 v.k,.int .i64 v.n,.str v.s]
def mX(f:VM):SM:=λk=>(f k).map mvV
def nC(f:VM)(k:ByteArray)(v:bX):fF (mX f) k (some (.agg [.int .i64 v.k,.int .i64 v.n,.str v.s]))=mX (l8 f k v):=by
 funext j;simp only[fF,mX,l8];split<;>rfl
def CU{f:VM}{k:ByteArray}{v:bX}(h:f k=some v):mX f k=some (.agg [.int .i64 v.k,.int .i64 v.n,.str v.s]):=by simp[mX,h,mvV]
def Ap{f:VM}{k:ByteArray}(h:f k=none):mX f k=none:=by simp[mX,h]
def pB(k:Kc)(m:MS):List DV:=[.p (.slice k.sb (bm k.st)),.p (.bool k.all),.p (.slice k.rb (aA k.rd)),.p (.slice k.wb (aA k.wr)),.ptr 5 0,.ptr 6 0,.p (.int .i64 0),.p (.int .i64 0),.ref 8 m.out.length 0 m.out.length,.ref 9 m.reads.length 0 m.reads.length,.ref 10 m.cm.length 0 m.cm.length,.p (.slice true []),.p (.str E),.p (.int .i64 m.steps)]
def mb(T:Heap)(k:Kc)(m:MS):Heap:=(11,.var false [.ptr 7 0])::(10,.row false 1 (aA m.cm))::(9,.row false 1 (aA m.reads))::(8,.row false 3 (bF m.out))::(7,.var false (pB k m))::(6,.map false (.strs m.on (mX m.own)))::(5,.map false (.strs m.vn (mX m.vars)))::T
section
variable{T:Heap}{k:Kc}{m:MS}
def aak:ah (mb T k m) 10=some (.row false 1 (aA m.cm)):=rfl
def aac:ah (mb T k m) 9=some (.row false 1 (aA m.reads)):=rfl
def aaa:ah (mb T k m) 8=some (.row false 3 (bF m.out)):=rfl
def aan:ah (mb T k m) 7=some (.var false [.p (.slice k.sb (bm k.st)),.p (.bool k.all),.p (.slice k.rb (aA k.rd)),.p (.slice k.wb (aA k.wr)),.ptr 5 0,.ptr 6 0,.p (.int .i64 0),.p (.int .i64 0),.ref 8 m.out.length 0 m.out.length,.ref 9 m.reads.length 0 m.reads.length,.ref 10 m.cm.length 0 m.cm.length,.p (.slice true []),.p (.str E),.p (.int .i64 m.steps)]):=rfl
def aax:ah (mb T k m) 6=some (.map false (.strs m.on (mX m.own))):=rfl
def aaA:ah (mb T k m) 5=some (.map false (.strs m.vn (mX m.vars))):=rfl
end
attribute [go_sem] aak aac aaa aan aax aaA
def cW{L M:Heap}{i:Nat}(h:ah L i=none):ah (L++M) i=ah M i:=by
 induction L with
 |nil=>rfl
 |cons x r a=>
  simp only[ah,List.cons_append]at h⊢;split at h
  .cases h
  .rename_i e;rw[an e];exact a h
def fU{L M:Heap}{i:Nat}{b:ca}(h:ah L i=none):aH (L++M) i b=L++aH M i b:=by
 induction L with
 |nil=>rfl
 |cons x r a=>
  simp only[ah,List.cons_append,aH]at h⊢;split at h
  .cases h
  .rename_i e;rw[an e,a h]
def jl(c:Nat)(M:Heap):∀L:Heap,az c (L++M)=az c L++az c M
 |[]=>rfl
 |(k,b)::r=>by simp only[List.cons_append,az];split<;>simp[jl c M r]
def nT(c:Nat)(M:Heap):∀L:Heap,cL c (L++M)=(cL c L&&cL c M)
 |[]=>by simp[cL]
 |(k,b)::r=>by simp[cL,nT c M r,Bool.and_assoc]
structure hZ(L T:Heap)(nx:Nat):Prop where
 ge:12<=nx
 ba:∀c,nx<=c->az c L=L
 al:∀c,nx<=c->cL c L=true
 no:∀c,nx<=c\/c<=11->ah L c=none
 bt:∀c,5<=c->az c T=T
 lt:∀c,5<=c->cL c T=true
 nt:∀c,5<=c->ah T c=none
section
variable{L T:Heap}{nx:Nat}
def hZ.lz(h:hZ L T nx)(k:Kc)(m:MS):bu (L++mb T k m) nx:=by
 have l:=h.ge;refine⟨λc a=>?_,λc a=>?_,λc a=>?_⟩
 .rw[jl,h.ba c a];have j:11<c:=ae;have b:10<c:=ae;have d:9<c:=ae;have e:8<c:=ae;have f:7<c:=ae;have g:6<c:=ae;have i:5<c:=ae;simp only[mb,az,j,b,d,e,f,g,i,bZ,h.bt c ae]
 .rw[nT,h.al c a];have b:10<c:=ae;have d:9<c:=ae;have e:8<c:=ae;have f:7<c:=ae;have g:6<c:=ae;have i:5<c:=ae;simp[mb,cL,ca.below,below,dep,pB,b,d,e,f,g,i,h.lt c ae]
 .rw[cW (h.no c (.inl a))];have j:(11==c)=false:=er.2 ae;have b:(10==c)=false:=er.2 ae;have d:(9==c)=false:=er.2 ae;have e:(8==c)=false:=er.2 ae;have f:(7==c)=false:=er.2 ae;have g:(6==c)=false:=er.2 ae;have i:(5==c)=false:=er.2 ae;simp[mb,ah,j,b,d,e,f,g,i,h.nt c ae]
def hZ.cons{b:ca}(h:hZ L T nx)(d:b.below (nx+1)=true:=by rfl):hZ ((nx,b)::L) T (nx+1):=by
 have e:=h.ge;exact⟨ae,λc a=>by rw[az,aq ae,h.ba c ae],λc a=>by simp only[cL,aO];exact⟨ca.fu a d,h.al c ae⟩,
  λc a=>by rw[aP,an ae];exact h.no c ae,h.bt,h.lt,h.nt⟩
def hZ.g(h:hZ L T nx)(M:Heap):∀c,c<=11->ah (L++M) c=ah M c:=λc a=>cW (h.no c (.inr a))
def hZ.s(h:hZ L T nx)(M:Heap):∀c,c<=11->∀b,aH (L++M) c b=L++aH M c b:=λc a b=>fU (h.no c (.inr a))
def hZ.ex(h:hZ L T nx):∃x,nx=x+12:=⟨nx-12,by have:=h.ge;omega⟩
structure LF(L T:Heap)(k:Kc)(x:Nat):Prop where
 n0:∀m,ah (L++mb T k m) (x+12)=none
 n1:∀m,ah (L++mb T k m) (x+13)=none
 n2:∀m,ah (L++mb T k m) (x+14)=none
 n3:∀m,ah (L++mb T k m) (x+15)=none
 n4:∀m,ah (L++mb T k m) (x+16)=none
 b0:∀m,az (x+12) (L++mb T k m)=L++mb T k m
 l0:∀m,cL (x+12) (L++mb T k m)=true
 b1:∀m,az (x+13) (L++mb T k m)=L++mb T k m
 l1:∀m,cL (x+13) (L++mb T k m)=true
 b2:∀m,az (x+14) (L++mb T k m)=L++mb T k m
 l2:∀m,cL (x+14) (L++mb T k m)=true
 b3:∀m,az (x+15) (L++mb T k m)=L++mb T k m
 l3:∀m,cL (x+15) (L++mb T k m)=true
 g4:∀m,ah (L++mb T k m) 5=some (.map false (.strs m.vn (mX m.vars)))
 g5:∀m,ah (L++mb T k m) 6=some (.map false (.strs m.on (mX m.own)))
 g6:∀m,ah (L++mb T k m) 7=some (.var false [.p (.slice k.sb (bm k.st)),.p (.bool k.all),.p (.slice k.rb (aA k.rd)),.p (.slice k.wb (aA k.wr)),.ptr 5 0,.ptr 6 0,.p (.int .i64 0),.p (.int .i64 0),.ref 8 m.out.length 0 m.out.length,.ref 9 m.reads.length 0 m.reads.length,.ref 10 m.cm.length 0 m.cm.length,.p (.slice true []),.p (.str E),.p (.int .i64 m.steps)])
 g7:∀m,ah (L++mb T k m) 8=some (.row false 3 (bF m.out))
 g8:∀m,ah (L++mb T k m) 9=some (.row false 1 (aA m.reads))
 g9:∀m,ah (L++mb T k m) 10=some (.row false 1 (aA m.cm))
def LF.q{x:Nat}{k:Kc}(h:LF L T k x):=Cj h.n0<|Cj h.n1<|Cj h.n2<|Cj h.n3<|Cj h.n4<|Cj h.b0<|Cj h.b1<|Cj h.b2<|Cj h.b3<|Cj h.l0<|Cj h.l1<|Cj h.l2<|Cj h.l3<|Cj h.g4<|Cj h.g5<|Cj h.g6<|Cj h.g7<|Cj h.g8 h.g9
def hZ.lf{x:Nat}(h:hZ L T (x+12))(k:Kc):LF L T k x where
 n0:=λm=>(h.lz k m).no _ ae
 n1:=λm=>(h.lz k m).no _ ae
 n2:=λm=>(h.lz k m).no _ ae
 n3:=λm=>(h.lz k m).no _ ae
 n4:=λm=>(h.lz k m).no _ ae
 b0:=λm=>(h.lz k m).ba _ ae
 l0:=λm=>(h.lz k m).al _ ae
 b1:=λm=>(h.lz k m).ba _ ae
 l1:=λm=>(h.lz k m).al _ ae
 b2:=λm=>(h.lz k m).ba _ ae
 l2:=λm=>(h.lz k m).al _ ae
 b3:=λm=>(h.lz k m).ba _ ae
 l3:=λm=>(h.lz k m).al _ ae
 g4:=λm=>by rw[h.g _ 5 ae];rfl
 g5:=λm=>by rw[h.g _ 6 ae];rfl
 g6:=λm=>by rw[h.g _ 7 ae];rfl
 g7:=λm=>by rw[h.g _ 8 ae];rfl
 g8:=λm=>by rw[h.g _ 9 ae];rfl
 g9:=λm=>by rw[h.g _ 10 ae];rfl
def cC{e:Type}(L T:Heap)(k:Kc)(nx:Nat)(d:e->DV)(r:Rs e):Q:=match r with
 | .ok a m=>.inl (d a,L++mb T k m,nx)
 | .no f c b m=>.inr (qz f c b,L++mb T k m)
def bG{b:Type}{k:Kc}{d:b->DV}{r:Rs b}{f:FuncId}{l:List DV}{H:Heap}{a:b}{m:MS}(h:CS tb f l H nx (cC L T k nx d r))(e:r=.ok a m):CS tb f l H nx (.inl (d a,L++mb T k m,nx)):=by subst e;exact h
def ff{b:Type}{k:Kc}{d:b->DV}{r:Rs b}{f:FuncId}{l:List DV}{H:Heap}{g c:Int}{a:ByteArray}{m:MS}(h:CS tb f l H nx (cC L T k nx d r))(e:r=.no g c a m):CS tb f l H nx (.inr (qz g c a,L++mb T k m)):=by subst e;exact h
abbrev Dh(_:Unit):DV:=.tuple []
def Ic(k:Kc)(m:MS)(h:hZ L T nx)(d:0<=m.steps)(f:m.steps<=16384):CS tb 117 [.ptr 7 0] (L++mb T k m) nx (cC L T k nx Dh (gW m)):=by
 have b:=h.lz k;have e:aH (L++mb T k m) 7 (.var false (pB k {m with steps:=m.steps+1}))=L++mb T k {m with steps:=m.steps+1}:=by rw[h.s _ 7 ae];rfl
 simp only[pB]at e;unfold gW;by_cases c:16384<m.steps+1
 .simp only[aq c,bB,cC];refine fZ (af:=a117) rfl rfl ?_;unfold a117;dsimp only[aj];exact gD (pS (λa=>(b a).ba) (λa=>(b a).al) (λa=>(b a).no) h.g e c) trivial trivial (λ{a}=>gu 1008 (b a)) k0
 .simp only[an c,cC];refine fZ (af:=a117) rfl rfl ?_;unfold a117;dsimp only[aj];exact gN (pS (λa=>(b a).ba) (λa=>(b a).al) (λa=>(b a).no) h.g e c) k0
end
end
section
open Go Go.Dv
def MY(l:List ByteArray)(k:ByteArray)(b:Bool)(s:l.length<=1048576)(K:Ex->St->Prop)(h:(∀j,j<l.length->(λj=>!decide (l.getD j E=k)) j=true)->K (.exit 0) ⟨[],[],0,[0]⟩)
  (n:∀i,i<l.length->(λj=>!decide (l.getD j E=k)) i=false->∀e,ah e.env 4=some (.p (.int .i64 i))->K .ret e):∀(m i:Nat),i+m=l.length->(∀j,j<i->(λj=>!decide (l.getD j E=k)) j=true)->
  W tb wJ ⟨[(0,.p (.slice b (aA l))),(1,.p (.str k)),(7,.p (.int .i64 l.length)),(8,.p (.int .i64 i))],[],0,[0]⟩ (LK tb (.ghost .lower wJ) K):=by
 intro m;induction m with
 |zero=>
  intro i o a;have c:¬(i:Int)<l.length:=ae;refine bq wJ.eq_1 ?_;refine gN (bf c @aE) (k1 ?_);exact h (λj t=>a j ae)
 |succ m p=>
  intro i o a;have c:(i:Int)<l.length:=ae;have d:i<l.length:=ae;have q:(0:Int)<=i:=ae;have r:=jN l i d;have f:decide (l.getD i E=k)=decide (k=l[i]):=by rw[dE l i d];exact GG.2 eq_comm
  refine bq wJ.eq_1 ?_;refine hN (eY c q @aE r) (k2 ?_ ?_)<;>(repeat with_reducible intro g)
  all_goals first
   |(exfalso;omega)
   |exact n i d (by(try dsimp only);rw[f];simp[g]) _ rfl
   |(refine rn (dY ?_)
     (try simp(disch:=omega) only[go_sem,seval,reduceCtorEq,aE])
     exact p (i+1) ae (tA a (by(try dsimp only);rw[f];simp[g])))
def I6(l:List ByteArray)(k:ByteArray)(b:Bool)(e:l.length<=1048576):∃n:Int,PS tb 78 [.slice b (aA l),.str k] (.int .i64 n)/\decide (0<=n)=hasB l k:=by
 have w:W tb Q5.body {env:=aj 0 ([PV.slice b (aA l),PV.str k].map aQ),heap:=[],next:=0,marks:=[0]} (ic Q5.results λv s=>∃n:{n:Int//decide (0<=n)=hasB l k},bE s.heap dep v=some (.int .i64 n.1)):=by
  unfold Q5;dsimp only[List.map,aQ,aj]
  (try simp(disch:=omega) only[go_sem,seval,reduceCtorEq,aE])
  refine dY ?_;refine nJ ?_;refine MY l k b e _ ?_ ?_ l.length 0 ae (λj h=>ae)
  .intro g;refine nJ ?_;have:k∉l:=by
    intro m;obtain⟨i,a,rfl⟩:=List.mem_iff_getElem.1 m;have:=g i a;dsimp only at this;rw[dE l i a]at this;simp at this
   exact⟨⟨-1,by rw[wG.2 this];rfl⟩,rfl⟩
  .intro i a c p d
   (try simp(disch:=omega) only[go_sem,seval,reduceCtorEq,d])
   have:k∈l:=by
    dsimp only at c;rw[dE l i a]at c;simp at c;rw[<-c];exact List.getElem_mem a
   exact⟨⟨i,by rw[gp.2 this];simp⟩,rfl⟩
 obtain⟨⟨n,o⟩,h⟩:=nq (T:=tb) (f:=78) (af:=Q5) rfl rfl w;exact⟨n,h,o⟩
def tW(l:List ByteArray)(k:ByteArray)(b:Bool)(a:l.length<=1048576):PS tb 45 [.slice b (aA l),.str k] (.bool (hasB l k)):=by
 obtain⟨n,c,d⟩:=I6 l k b a;refine bM (af:=Yg) rfl rfl ?_;unfold Yg;dsimp only[List.map,aQ,aj];exact gP d c k0
end
section
open Go Go.Dv
def gK{n k:Nat}(h:k<n):(n==k)=false:=er.2 ae
def iK{n k:Nat}(h:k<n):(n=k)=False:=by rw[Gn];simp;omega
def xG(l:List bX)(v:bX):bF l++[[.int .i64 v.k,.int .i64 v.n,.str v.s]]=bF (l++[v]):=by simp[bF,gB]
def Bh(a b c:PV):bV 3 [[a,b,c]]=true:=rfl
attribute [go_sem] Option.isSome_some Option.isSome_none
section
variable{L T:Heap}{nx:Nat}
def UO(k:Kc)(m:MS)(v:bX)(h:hZ L T nx)(i:m.out.length<=16):CS tb 141 [.ptr 7 0,fX v] (L++mb T k m) nx (cC L T k nx Dh (nM v m)):=by
 have b:=h.lz k;have j:=h.ge;have e:aH (aH (L++mb T k m) 8 (.row false 3 (bF (m.out++[v])))) 7 (.var false (pB k {m with out:=m.out++[v]}))=L++mb T k {m with out:=m.out++[v]}:=by rw[h.s _ 8 ae,h.s _ 7 ae];rfl
 simp only[pB,List.length_append,List.length_cons,List.length_nil,Nat.zero_add]at e;unfold nM;by_cases c:m.out.length=16
 .have d:((m.out.length:Nat):Int)=16:=ae;simp only[aq c,bB,cC];refine fZ (af:=a141) rfl rfl ?_;unfold a141;dsimp only[aj];exact gD (ow (λa=>(b a).ba) (λa=>(b a).al) (λa=>(b a).no) h.g e d @gK @iK @cv) trivial trivial (λ{z}=>@bu.d1 _ _ _ (b z) λk=>gu 1007 k) k0
 .have d:¬((m.out.length:Nat):Int)=16:=ae;have f:(m.out.length+1)*32<=ak:=by simp only[ak];omega
  have g:m.out.length+1<=ak:=by simp only[ak];omega
  simp only[an c,cC];refine fZ (af:=a141) rfl rfl ?_;unfold a141;dsimp only[aj];exact gN (Jj (λa=>(b a).ba) (λa=>(b a).al) (λa=>(b a).no) h.g e d f g @gK @iK @cv @xG @Bh @bn) k0
def Ny{P q:Prop}(k:q)(h:Bx q->P:=by
 intro k;refine fZ (af:=a139) rfl rfl ?_;unfold a139;dsimp only[aj];exact k.q):P:=h ⟨k⟩
def FD(k:Kc)(m:MS)(a:ByteArray)(v:bX)(h:hZ L T nx)(o:dx m.cm)(p:m.cm.length<=1099511627776)(q:k.wr.length<=1048576):CS tb 139 [.ptr 7 0,.p (.str a),fX v] (L++mb T k m) nx (cC L T k nx Dh (fe k.cz a v m)):=by
 have d:=h.lz k;have r:=h.ge;have g:=kD a;have i:=tW k.wr a k.wb q;cases c:lG a with
 |false=>
  have em:fe k.cz a v m=.no 2 1004 E m:=by simp[fe,c,bB]
  rw[em];simp only[cC];rw[c]at g;refine Ny ?_;exact gD (pS (λb=>(d b).ba) (λb=>(d b).al) (λb=>(d b).no) h.g @gK @iK) g trivial (λ{z}=>@bu.d1 _ _ _ (d z) λk=>gu 1004 k) k0
 |true=>
  rw[c]at g;have l:=JQ m.cm a o p ((nx,.var false [.p (.int .i64 v.k),.p (.int .i64 v.n),.p (.str v.s)])::(L++mb T k m)) 10 (nx+1) ae (d m).c1 (by rw[aP,an ae,h.g _ 10 ae];rfl)
  have e:aH (aH (aH (L++mb T k m) 10 (.row false 1 (aA (ins a m.cm)))) 7 (.var false (pB k {m with cm:=ins a m.cm}))) 6 (.map false (.strs (if(m.own a).isSome then m.on else m.on+1) (mX (l8 m.own a v))))=L++mb T k {m with cm:=ins a m.cm,own:=l8 m.own a v,on:=if(m.own a).isSome then m.on else m.on+1}:=by rw[h.s _ 10 ae,h.s _ 7 ae,h.s _ 6 ae];rfl
  simp only[pB]at e;have n:(mX m.own a).isSome=(m.own a).isSome:=by simp[mX]
  cases f:k.all with
  |true=>
   have em:fe k.cz a v m=.ok () {m with cm:=ins a m.cm,own:=l8 m.own a v,on:=if(m.own a).isSome then m.on else m.on+1}:=by simp[fe,c,Kc.cz,f]
   rw[em];simp only[cC];refine Ny ?_;rw[f]at e;exact gR (j0 (λb=>(d b).ba) (λb=>(d b).al) (λb=>(d b).no) h.g @gK @iK f e n @nC @bn) (bf g i) l k0
  |false=>
   cases j:hasB k.wr a with
   |false=>
    rw[j]at i;have em:fe k.cz a v m=.no 3 0 a m:=by simp[fe,c,Kc.cz,f,j]
    rw[em];simp only[cC];refine Ny ?_;exact gD (uU (λb=>(d b).ba) (λb=>(d b).al) (λb=>(d b).no) h.g @gK @iK f) (bf g i) trivial (λ{z}=>@bu.d1 _ _ _ (d z) λk=>AJ a k) k0
   |true=>
    rw[j]at i;have em:fe k.cz a v m=.ok () {m with cm:=ins a m.cm,own:=l8 m.own a v,on:=if(m.own a).isSome then m.on else m.on+1}:=by simp[fe,c,Kc.cz,f,j]
    rw[em];simp only[cC];refine Ny ?_;rw[f]at e;exact gR (j0 (λb=>(d b).ba) (λb=>(d b).al) (λb=>(d b).no) h.g @gK @iK f e n @nC @bn) (bf g i) l k0
def Ji{P q:Prop}(k:q)(h:Bx q->P:=by
 intro k;refine fZ (af:=a213) rfl rfl ?_;unfold a213;dsimp only[aj];exact k.q):P:=h ⟨k⟩
def OL(k:Kc)(m:MS)(a:ByteArray)(h:hZ L T nx)(r:dx m.reads)(s:m.reads.length<=1099511627776)(t:k.rd.length<=1048576)(p:k.st.length<=1099511627776):CS tb 213 [.ptr 7 0,.p (.str a)] (L++mb T k m) nx (cC L T k nx fX (fB k.cz a m)):=by
 have d:=h.lz k;have u:=h.ge;have j:=kD a;have n:=tW k.rd a k.rb t;have f:=VJ k.st a k.sb p;simp only[gB]at f;cases c:lG a with
 |false=>
  have em:fB k.cz a m=.no 2 1004 E m:=by simp[fB,c,bB]
  rw[em];simp only[cC];rw[c]at j;refine Ji ?_;exact gD (pS (λb=>(d b).ba) (λb=>(d b).al) (λb=>(d b).no) h.g @gK @iK) j trivial (λ{z}=>@bu.d1 _ _ _ (d z) λk=>gu 1004 k) k0
 |true=>
  rw[c]at j;cases l:m.own a with
  |some v=>
   have em:fB k.cz a m=.ok v m:=by simp[fB,c,l]
   have g:=CU l;rw[em];simp only[cC];refine Ji ?_;exact gP (uU (λb=>(d b).ba) (λb=>(d b).al) (λb=>(d b).no) h.g @gK @iK g) j k0
  |none=>
   have g:=Ap l;have q:=JQ m.reads a r s ((nx+1,.var false [.p (.int .i64 0),.p (.int .i64 0),.p (.str ⟨#[]⟩)])::(nx,.var false [.p (.int .i64 0),.p (.int .i64 0),.p (.str ⟨#[]⟩)])::(L++mb T k m)) 9 (nx+2) ae (d m).c2 (by rw[aP,an ae,aP,an ae,h.g _ 9 ae];rfl)
   have e:aH (aH (L++mb T k m) 9 (.row false 1 (aA (ins a m.reads)))) 7 (.var false (pB k {m with reads:=ins a m.reads}))=L++mb T k {m with reads:=ins a m.reads}:=by rw[h.s _ 9 ae,h.s _ 7 ae];rfl
   simp only[pB]at e;cases i:k.all with
   |true=>
    have em:fB k.cz a m=.ok (cX k.st a) {m with reads:=ins a m.reads}:=by simp[fB,c,l,Kc.cz,i]
    rw[em];simp only[cC];refine Ji ?_;rw[i]at e;exact gR (pL (λb=>(d b).ba) (λb=>(d b).al) (λb=>(d b).no) h.g @gK @iK g i e @bn) (c9 j n f) q k0
   |false=>
    cases o:hasB k.rd a with
    |false=>
     rw[o]at n;have em:fB k.cz a m=.no 3 0 a m:=by simp[fB,c,l,Kc.cz,i,o]
     rw[em];simp only[cC];refine Ji ?_;exact gD (Gg (λb=>(d b).ba) (λb=>(d b).al) (λb=>(d b).no) h.g @gK @iK g i) (bf j n) trivial (λ{z}=>@bu.d2 _ _ _ (d z) λk=>AJ a k) k0
    |true=>
     rw[o]at n;have em:fB k.cz a m=.ok (cX k.st a) {m with reads:=ins a m.reads}:=by simp[fB,c,l,Kc.cz,i,o]
     rw[em];simp only[cC];refine Ji ?_;rw[i]at e;exact gR (pL (λb=>(d b).ba) (λb=>(d b).al) (λb=>(d b).no) h.g @gK @iK g i e @bn) (c9 j n f) q k0
end
end
end Go.Dv.Tryz
