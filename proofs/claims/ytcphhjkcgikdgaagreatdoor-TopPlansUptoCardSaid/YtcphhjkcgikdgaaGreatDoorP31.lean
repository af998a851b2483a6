/- Lemmas for the law of this claim. -/
import Derived.Test.YtcphhjkcgikdgaaGreatDoorP30
import Derived.Test.YtcphhjkcgikdgaaGreatDoorP26
import Derived.Test.YtcphhjkcgikdgaaGreatDoorP25
import Derived.Test.YtcphhjkcgikdgaaGreatDoorP24
import Derived.Test.YtcphhjkcgikdgaaGreatDoorP29
set_option linter.all false
set_option maxRecDepth 100000
set_option maxHeartbeats 4000000
namespace Go.Dv.Tryz
section
open Go Go.Dv
def Ho(a:List Pr):Heap:=[(3,.var false [.func 57 [.ptr 2 0]]),(2,.var false [.func 56 [.ptr 0 0]]),(1,.row false 4 (bm a)),(0,.var false [.ref 1 a.length 0 a.length])]
structure LB(L:Heap)(nx:Nat):Prop where
 ge:4<=nx
 ba:∀c,nx<=c->az c L=L
 al:∀c,nx<=c->cL c L=true
 no:∀c,nx<=c\/c<4->ah L c=none
def LB.cons{L:Heap}{nx:Nat}{b:ca}(h:LB L nx)(d:b.below (nx+1)=true:=by rfl):LB ((nx,b)::L) (nx+1):=by
 have e:=h.ge;exact⟨ae,λc a=>by rw[az,aq ae,h.ba c ae],λc a=>by simp only[cL,aO];exact⟨ca.fu a d,h.al c ae⟩,
  λc a=>by rw[aP,an ae];exact h.no c ae⟩
def LN:LB [] 4:=⟨Nat.le_refl _,λ_ _=>rfl,λ_ _=>rfl,λ_ _=>rfl⟩
def LB.ex{L:Heap}{nx:Nat}(h:LB L nx):∃x,nx=x+4:=⟨nx-4,by have:=h.ge;omega⟩
structure LG(L:Heap)(x:Nat):Prop where
 n0:∀o,ah (L++Ho o) (x+4)=none
 n1:∀o,ah (L++Ho o) (x+5)=none
 b0:∀o,az (x+4) (L++Ho o)=L++Ho o
 l0:∀o,cL (x+4) (L++Ho o)=true
 b1:∀o,az (x+5) (L++Ho o)=L++Ho o
 l1:∀o,cL (x+5) (L++Ho o)=true
 g0:∀o,ah (L++Ho o) 0=some (.var false [.ref 1 o.length 0 o.length])
 g1:∀o,ah (L++Ho o) 1=some (.row false 4 (bm o))
 g2:∀o,ah (L++Ho o) 2=some (.var false [.func 56 [.ptr 0 0]])
 g3:∀o,ah (L++Ho o) 3=some (.var false [.func 57 [.ptr 2 0]])
 s1:∀o b,aH (L++Ho o) 1 b=L++aH (Ho o) 1 b
 s0:∀o b c,aH (L++aH (Ho o) 1 b) 0 c=L++aH (aH (Ho o) 1 b) 0 c
 s2:∀o b,ah (L++aH (Ho o) 1 b) 0=some (.var false [.ref 1 o.length 0 o.length])
def LB.lg{L:Heap}{x:Nat}(h:LB L (x+4)):LG L x:=by
 have i:∀o c,x+4<=c->az c (L++Ho o)=L++Ho o:=λo c a=>by
  rw[jl,h.ba c a];have g:3<c:=ae;have d:2<c:=ae;have e:1<c:=ae;have f:0<c:=ae;simp[Ho,az,g,d,e,f]
 have j:∀o c,x+4<=c->cL c (L++Ho o)=true:=λo c a=>by
  rw[nT,h.al c a];have d:2<c:=ae;have e:1<c:=ae;have f:0<c:=ae;simp[Ho,cL,ca.below,below,dep,d,e,f]
 have k:∀o c,x+4<=c->ah (L++Ho o) c=none:=λo c a=>by
  rw[cW (h.no c (.inl a))];have g:(3==c)=false:=er.2 ae;have d:(2==c)=false:=er.2 ae;have e:(1==c)=false:=er.2 ae;have f:(0==c)=false:=er.2 ae;simp[Ho,ah,g,d,e,f]
 exact⟨λo=>k o _ ae,λo=>k o _ ae,λo=>i o _ ae,λo=>j o _ ae,λo=>i o _ ae,λo=>j o _ ae,
  λo=>by rw[cW (h.no 0 (.inr ae))];rfl,λo=>by rw[cW (h.no 1 (.inr ae))];rfl,λo=>by rw[cW (h.no 2 (.inr ae))];rfl,λo=>by rw[cW (h.no 3 (.inr ae))];rfl,
  λo b=>fU (h.no 1 (.inr ae)),λo b c=>fU (h.no 0 (.inr ae)),λo b=>by rw[cW (h.no 0 (.inr ae))];rfl⟩
abbrev zU(p:Pr):List DV:=[.p (.str p.key),.p (.int .i64 p.v.k),.p (.int .i64 p.v.n),.p (.str p.v.s)]
def Jr(o:List Pr)(p:Pr):bm o++[[.str p.key,.int .i64 p.v.k,.int .i64 p.v.n,.str p.v.s]]=bm (o++[p]):=by simp[bm,uS]
def Je(a b c d:PV):bV 4 [[a,b,c,d]]=true:=rfl
def Uq(o:List Pr)(p:Pr):aH (aH (Ho o) 1 (.row false 4 (bm (o++[p])))) 0 (.var false [.ref 1 (o.length+1) 0 (o.length+1)])=Ho (o++[p]):=by simp[Ho,aH]
section
variable{L:Heap}{nx:Nat}
def Dt(h:LB L nx)(o:List Pr)(c:o.length<=2199023255552)(p:Pr):BS tb 56 [.agg (zU p),.ptr 0 0] (L++Ho o) nx (.tuple []) (L++Ho (o++[p])) nx:=by
 obtain⟨x,rfl⟩:=h.ex;have f:=h.lg;have a:(o.length+1)*48<=ak:=by simp only[ak];omega
 have b:o.length+1<=ak:=by simp only[ak];omega
 refine cH (af:=X7) rfl rfl ?_;unfold X7;dsimp only[aj];exact gN (NV f.n0 f.n1 f.b0 f.l0 f.b1 f.l1 f.g0 f.g1 f.s0 f.s1 f.s2 @bK @Jr @Uq a b @Je) k0
def zG(h:LB L nx)(o:List Pr)(c:o.length<=2199023255552)(p:Pr):BS tb 57 [.agg (zU p),.ptr 2 0] (L++Ho o) nx (.tuple []) (L++Ho (o++one p)) nx:=by
 obtain⟨x,rfl⟩:=h.ex;have f:=h.lg;have d:=Dt (h.cons (b:=.var false (zU p))) o c p;have a:=Cv p;dsimp only[uS]at a;refine cH (af:=XZ) rfl rfl ?_;unfold XZ;dsimp only[aj];unfold one;cases e:sP p with
 |true=>
  rw[e]at a;rw[aq rfl,List.append_nil];exact gP (pL f.n0 f.n1 f.b0 f.l0 f.b1 f.l1 f.g0 f.g1 f.g2 f.g3) a k0
 |false=>
  rw[e]at a;rw[an (by decide)];exact gR (pL f.n0 f.n1 f.b0 f.l0 f.b1 f.l1 f.g0 f.g1 f.g2 f.g3) a d k0
def QJ(h:LB L nx)(o:List Pr)(a:o.length<=2199023255552)(q p:Pr):BS tb 61 [.agg (zU q),.agg (zU p),.ptr 3 0] (L++Ho o) nx (.tuple []) (L++Ho (o++one p)) nx:=by
 obtain⟨x,rfl⟩:=h.ex;have f:=h.lg;have c:=zG ((h.cons (b:=.var false (zU q))).cons (b:=.var false (zU p))) o a p;refine cH (af:=Yt) rfl rfl ?_;unfold Yt;dsimp only[aj];exact gR (pL f.n0 f.n1 f.b0 f.l0 f.b1 f.l1 f.g0 f.g1 f.g2 f.g3) trivial c k0
end
end
section
open Go Go.Dv
def Qw(a b:Pr)(o:List Pr):BS tb 60 [.agg (zU a),.agg (zU b)] (Ho o) 4 (.p (.int .i64 (pG a.key b.key))) ((5,.var false (zU b))::(4,.var false (zU a))::Ho o) 6:=by
 have f:=LN.lg;have c:=Kw a.key b.key;refine zD (af:=Yk) rfl rfl ?_;unfold Yk;dsimp only[aj];have d:ah (Ho o) 4=none:=f.n0 o;have e:ah (Ho o) 5=none:=f.n1 o;exact gP (bf d e) c k0
def tE(l:List Pr):dm l []=l:=by cases l with
 |nil=>rw[dm];rfl
 |cons a r=>rw[dm]
def Hg(a:Env)(o:List Pr)(h:a.all (λx=>below 4 dep x.2)=true):eU .reset ⟨a,Ho o,4,[4,4]⟩=some ⟨a,Ho o,4,[4,4]⟩:=by
 have f:=LN.lg;have c:az 4 (Ho o)=Ho o:=f.b0 o;have b:cL 4 (Ho o)=true:=f.l0 o;rw[<-mq]at b;simp[eU,jc,h,c,b]
def GS(a:Env)(o:List Pr)(b c:ca)(h:a.all (λx=>below 4 dep x.2)=true):eU .reset ⟨a,(5,b)::(4,c)::Ho o,6,[4,4]⟩=some ⟨a,Ho o,4,[4,4]⟩:=by
 have f:=LN.lg;have e:az 4 (Ho o)=Ho o:=f.b0 o;have d:cL 4 (Ho o)=true:=f.l0 o;rw[<-mq]at d;simp[eU,jc,h,e,d,az]
def MgI(a b:List Pr)(c d:Bool)(j:Nat)(e:St):Prop:=∃(i k:Nat) (o:List Pr),(a.length-i)+(b.length-k)=j/\i<=a.length/\k<=b.length/\o.length<=i+k/\o++dm (a.drop i) (b.drop k)=dm a b/\
 eU .reset e=some ⟨[(0,.p (.slice c (bm a))),(1,.p (.slice d (bm b))),(2,.func 60 []),(3,.func 56 [.ptr 0 0]),(4,.func 57 [.ptr 2 0]),(5,.func 61 [.ptr 3 0]),(12,.p (.int .i64 i)),(13,.p (.int .i64 k))],Ho o,4,[4,4]⟩
def yG(p:Pr):(one p).length<=1:=by unfold one;split<;>simp
def P7(a b:ByteArray)(h:slt b a=true):0<pG a b:=by
 have c:¬pG a b<0:=by rw[Ce,rO h];decide
 have d:¬pG a b=0:=by rw[Kg];exact(uN h).symm
 omega
def Qf(a b:List Pr)(H I:Bool)(N:a.length<=1099511627776)(O:b.length<=1048576):BS tb 59 [.p (.slice H (bm a)),.p (.slice I (bm b)),.func 60 [],.func 56 [.ptr 0 0],.func 57 [.ptr 2 0],.func 61 [.ptr 3 0]] (Ho []) 4 (.tuple []) (Ho (dm a b)) 4:=by
 refine cH (af:=a59) rfl rfl ?_;unfold a59;dsimp only[aj];refine nJ ?_;refine bU (MgI a b H I) ?_ (a.length+b.length) _
  ⟨0,0,[],ae,ae,ae,aB,aB,Hg _ _ (by simp[below,dep])⟩
 rintro j P ⟨i,k,o,Q,J,K,R,c,L⟩;refine bq rfl ?_;rw[Ib,L,KW];clear L;have f:=LN.lg;have g:∀o,ah (Ho o) 4=none:=f.n0;have d:∀o,az 4 (Ho o)=Ho o:=f.b0;have e:∀o,cL 4 (Ho o)=true:=f.l0;unfold NM;have x:(0:Int)<=i:=ae;have l:(0:Int)<=k:=ae;by_cases M:i<a.length
 .have u:(i:Int)<a.length:=ae;have p:¬(i:Int)=a.length:=ae;have v:a.drop i=a[i]::a.drop (i+1):=List.drop_eq_getElem_cons M;have q:=jS a i M;by_cases y:k<b.length
  .have r:(k:Int)<b.length:=ae;have w:¬(k:Int)=b.length:=ae;have s:b.drop k=b[k]::b.drop (k+1):=List.drop_eq_getElem_cons y;have m:=jS b k y;have n:=Qw a[i] b[k] o;have C:=(LN.cons (b:=.var false (zU a[i]))).cons (b:=.var false (zU b[k]));rw[v,s,dm]at c;by_cases z:slt a[i].key b[k].key=true
   .rw[aq z,<-s]at c;have A:pG a[i].key b[k].key<0:=(Ce _ _).2 z;have t:=Dt C o ae a[i];refine gR (mg x l u p r w q m @bK g d e A) trivial (bf n t) (k1 ?_);exact LI.next (m':=j-1) ae ⟨i+1,k,o++[a[i]],ae,ae,K,by simp only[List.length_append,List.length_cons,List.length_nil];omega,by simpa using c,GS _ _ _ _ (by simp[below,dep])⟩
   .rw[an z]at c;have A:¬pG a[i].key b[k].key<0:=λh=>z ((Ce _ _).1 h)
    have D:=yG b[k];by_cases B:slt b[k].key a[i].key=true
    .rw[aq B,<-v]at c;have E:=P7 _ _ B;have t:=zG C o ae b[k];refine gR (Jj x l u p r w q m @bK g d e A E) trivial (bf n t) (k1 ?_);exact LI.next (m':=j-1) ae ⟨i,k+1,o++one b[k],ae,J,ae,by simp only[List.length_append];omega,by rw[List.append_assoc];exact c,GS _ _ _ _ (by simp[below,dep])⟩
    .rw[an B]at c;have E:¬0<pG a[i].key b[k].key:=by
      have:=(Kg a[i].key b[k].key).2 (mR (by simpa using z) (by simpa using B));omega
     have t:=QJ C o ae a[i] b[k];refine gR (Jj x l u p r w q m @bK g d e A E) trivial (bf n t) (k1 ?_);exact LI.next (m':=j-2) ae ⟨i+1,k+1,o++one b[k],ae,ae,ae,by simp only[List.length_append];omega,by rw[List.append_assoc];exact c,GS _ _ _ _ (by simp[below,dep])⟩
  .have F:k=b.length:=ae;subst F;have t:=Dt LN o ae a[i];have r:¬(b.length:Int)<b.length:=ae;rw[v,List.drop_eq_nil_of_le (Nat.le_refl _),tE]at c;refine gR (pL x l u p r q @bK g d e) trivial t (k1 ?_);exact LI.next (m':=j-1) ae ⟨i+1,b.length,o++[a[i]],ae,ae,K,by simp only[List.length_append,List.length_cons,List.length_nil];omega,by rw[List.drop_eq_nil_of_le (Nat.le_refl _),tE];simpa using c,Hg _ _ (by simp[below,dep])⟩
 .by_cases y:k<b.length
  .have G:i=a.length:=ae;subst G;have u:¬(a.length:Int)<a.length:=ae;have r:(k:Int)<b.length:=ae;have s:b.drop k=b[k]::b.drop (k+1):=List.drop_eq_getElem_cons y;have m:=jS b k y;have t:=zG LN o ae b[k];have D:=yG b[k];rw[s,List.drop_eq_nil_of_le (Nat.le_refl _),dm,List.flatMap_cons]at c;refine gR (ow x l u r m @bK g d e) trivial t (k1 ?_);exact LI.next (m':=j-1) ae ⟨a.length,k+1,o++one b[k],ae,J,ae,by simp only[List.length_append];omega,by rw[List.drop_eq_nil_of_le (Nat.le_refl _),dm,List.append_assoc];exact c,Hg _ _ (by simp[below,dep])⟩
  .have u:¬(i:Int)<a.length:=ae;have r:¬(k:Int)<b.length:=ae;rw[List.drop_eq_nil_of_le ae,List.drop_eq_nil_of_le ae,tE,List.append_nil]at c;subst c;exact gN (dM u r @bK d e) k0
def YV(l:List Pr):(bm l).take l.length=bm l:=List.take_of_length_le (by rw[bK];omega)
def lu(s:List Pr):Bool:=kM s&&!s.any sP
def sA(l:List Pr)(b:Bool)(c:l.length<=1099511627776)(f:Pj l):PS tb 54 [.slice b (bm l)] (.bool (lu l)):=by
 have a:=Bm l b c f;obtain⟨n,g,h⟩:=L8 l b 58 [] sP c λp _=>Cv p
 have d:PS tb 96 [.slice b (bm l),.func 58 []] (.bool (l.any sP)):=by
  refine bM (af:=YC) rfl rfl ?_;unfold YC;dsimp only[List.map,aQ,aj];exact gP h g k0
 refine bM (af:=YI) rfl rfl ?_;unfold YI;dsimp only[List.map,aQ,aj];unfold lu;cases e:kM l with
 |false=>
  rw[e]at a;exact gP trivial (bf a d) k0
 |true=>
  rw[e]at a;exact gP trivial (bf a d) k0;all_goals simp
def P9(l w:List Pr)(b c:Bool)(f:l.length<=1099511627776)(i:Pj l)(j:w.length<=1048576)(e:Pj w):
  PS tb 30 [.slice b (bm l),.slice c (bm w)] (if lu l&&kM w then .tuple [.slice false (bm (dm l w)),.int .i64 0]else .tuple [.slice true [],.int .i64 1]):=by
 have a:=sA l b f i;have d:=Bm w c ae e;have k:=Qf l w b c f j;refine bM (af:=Y9) rfl rfl ?_;unfold Y9;dsimp only[List.map,aQ,aj];cases g:lu l with
 |false=>
  rw[g]at a;exact gP trivial a k0;all_goals simp
 |true=>
  rw[g]at a;cases h:kM w with
  |false=>
   rw[h]at d;exact gP trivial (bf a d) k0;all_goals simp
  |true=>
   rw[h]at d;have m:∀o,ah (Ho o) 0=some (.var false [.ref 1 o.length 0 o.length]):=λ_=>rfl
   have n:∀o,ah (Ho o) 1=some (.row false 4 (bm o)):=λ_=>rfl
   exact gR (dM bC m n @bK YV) (bf a d) k k0;all_goals simp
end
section
open Go Go.Dv
def Dg(l:List Pc)(b:Bool)(f:FuncId)(a:List PV)(q:Pc->Bool)(y:l.length<=1048576)(u:∀p∈l,PS tb f (.agg (cq p)::a) (.bool (q p)))(m:cl (bE [] 5) (a.map aQ)=some a:=by rfl):
  ∃n:Int,PS tb 37 [.slice b (fY l),.func f a] (.int .i64 n)/\((n=-1/\l.find? q=none)\/∃(i:Nat) (h:i<l.length),n=i/\l.find? q=some l[i]):=by
 have w:W tb a37.body {env:=aj 0 ([PV.slice b (fY l),PV.func f a].map aQ),heap:=[],next:=0,marks:=[0]} (ic a37.results λv s=>∃n:{n:Int//((n=-1/\l.find? q=none)\/∃(i:Nat) (h:i<l.length),n=i/\l.find? q=some l[i])},bE s.heap dep v=some (.int .i64 n.1)):=by
  unfold a37;dsimp only[List.map,aQ,aj];refine gN @fH (k1 ?_);refine bU (λj o=>∃i:Nat,i+j=l.length/\l.find? q=(l.drop i).find? q/\o=⟨[(0,.p (.slice b (fY l))),(1,.p (.func f a)),(7,.p (.int .i64 l.length)),(8,.p (.int .i64 i))],[],0,[0]⟩) ?_ l.length _ ⟨0,ae,rfl,rfl⟩;rintro j o ⟨i,z,d,rfl⟩;refine bq Ns.eq_1 ?_;rcases cK i l.length with c|c
  .have k:(i:Int)<l.length:=ae;have r:(0:Int)<=i:=ae;have t:=wB l i c;have g:=u _ (List.getElem_mem c);dsimp only[cq]at g;rw[List.drop_eq_getElem_cons c,List.find?_cons]at d;cases e:q l[i]with
   |true=>
    rw[e]at g d;refine gP (dM k r @fH t m) g (k1 ?_);exact⟨⟨i,.inr ⟨i,c,rfl,d⟩⟩,rfl⟩
   |false=>
    rw[e]at g d;refine gP (dM k r @fH t m) g (k1 ?_);exact LI.next (m':=j-1) ae ⟨i+1,ae,d,rfl⟩
  .have k:¬(i:Int)<l.length:=ae;refine gN k (k1 ?_);rw[List.drop_eq_nil_of_le c]at d;exact⟨⟨-1,.inl ⟨rfl,d⟩⟩,rfl⟩
 obtain⟨⟨n,x⟩,h⟩:=nq (T:=tb) (f:=37) (af:=a37) rfl rfl w;exact⟨n,h,x⟩
noncomputable def kQ (p:Pc) (a:Bool) (args:List bX):Int:=Classical.epsilon λe=>PS tb 80 [.agg (cq p),.slice a (bF args)] (.int .i64 e)
noncomputable def oG (p:Pc):Int:=Classical.epsilon λe=>PS tb 81 [.agg (cq p)] (.int .i64 e)
def sV(t:Tx)(p:Pc):Bool:=decide (p.name=t.proc)
noncomputable def lA (a:List Pc) (t:Tx):Option Pc:=match a.find? (sV t)with
 |some p=>if kQ p t.fa t.args=0 then some p else none
 |none=>none
def Vr(p:Pc)(t:Tx):PS tb 79 [.agg (cq p),.eN (qJ t)] (.bool (sV t p)):=by
 refine bM (af:=Y1) rfl rfl ?_;unfold Y1;dsimp only[List.map,aQ,aj,cq,qJ];refine gN trivial (k1 ?_);all_goals simp[sV]
abbrev Z0:List PV:=[.str ⟨#[]⟩,.slice true [],.slice true []]
def N7(a:List Pc)(t:Tx):Prop:=∀p∈a,∃e,PS tb 80 [.agg (cq p),.slice t.fa (bF t.args)] (.int .i64 e)
def Rb{a:List Pc}{t:Tx}(h:N7 a t){p:Pc}(b:p∈a):PS tb 80 [.agg (cq p),.slice t.fa (bF t.args)] (.int .i64 (kQ p t.fa t.args)):=j9 (h p b)
def Ph(a:List Pc)(b:Bool)(t:Tx)(m:a.length<=1048576)(o:N7 a t):PS tb 46 [.slice b (fY a),.agg (qJ t)] (match lA a t with
  |some p=>.tuple [.agg (cq p),.bool true]
  |none=>.tuple [.agg Z0,.bool false]):=by
 obtain⟨n,f,e⟩:=Dg a b 79 [.eN (qJ t)] (sV t) m λp _=>Vr p t
 refine bM (af:=a46) rfl rfl ?_;unfold a46;dsimp only[List.map,aQ,aj,qJ];dsimp only[qJ]at f;unfold lA;rcases e with⟨rfl,e⟩|⟨i,l,rfl,e⟩
 .rw[e];exact gP @fH f k0;all_goals rfl
 .rw[e];have g:¬(i:Int)<0:=ae;have h:(0:Int)<=i:=ae;have j:=wB a i l;have k:=Rb o (List.getElem_mem l);dsimp only[cq]at k;by_cases c:kQ a[i] t.fa t.args=0
  .simp only[aq c];repeat'(first|exact f|exact k|(simp(disch:=omega) only[go_sem,seval,reduceCtorEq,fH,g,h,j,aZ c])|with_reducible exact Ev.mk|apply gb|((first|apply b5|apply bO)<;>intro d q<;>(simp(disch:=omega) only[go_sem,seval,reduceCtorEq,fH,g,h,j,aZ c,d])<;>clear d))
   all_goals first|rfl|contradiction
  .simp only[an c];repeat'(first|exact f|exact k|(simp(disch:=omega) only[go_sem,seval,reduceCtorEq,fH,g,h,j,c])|with_reducible exact Ev.mk|apply gb|((first|apply b5|apply bO)<;>intro d q<;>(simp(disch:=omega) only[go_sem,seval,reduceCtorEq,fH,g,h,j,c,d])<;>clear d))
   all_goals first|rfl|contradiction
end
section
open Go Go.Dv
structure wA(p:Pc)(t:Tx):Prop where
 ck:∃e,PS tb 81 [.agg (cq p)] (.int .i64 e)
 ar:∃e,PS tb 80 [.agg (cq p),.slice t.fa (bF t.args)] (.int .i64 e)
 al:kQ p t.fa t.args=0->t.args.length=p.ps.length
 bo:cD p.body
 bz:dF p.body<=1099511627776
 ps:p.ps.length<=1048576
 vs:∀v∈t.args,cQ v
 ft:Fc t.eT
structure ka(s:List Pr):Prop where
 len:s.length<=1099511627776
 vs:∀p∈s,cQ p.v
def ka.sz{s:List Pr}(h:ka s):Pj s:=λp a=>(h.vs p a).2.2
def ka.g{s:List Pr}(h:ka s)(a:ByteArray):cQ (cX s a):=by
 unfold cX;split
 .rename_i p e;exact h.vs p (List.mem_of_find?_eq_some e)
 .exact DF
def AX{f:Ft}(h:kl f=true):f.r.length<=1048576/\f.w.length<=1048576:=by
 unfold kl at h;split at h<;>simp only[aO,cp]at h<;>omega
abbrev sM(g:ByteArray->bX)(f:Ft):Cz:=⟨g,f.all,f.r,f.w⟩
noncomputable def qR (p:Pc) (t:Tx) (s:List Pr):Ef:=
 if oG p=0/\kQ p t.fa t.args=0/\lu s=true/\kl t.eT=true then dS (bN (sM (cX s) t.eT) p.body (fE p.ps t.args jI))else oL
def Jc{p:Pc}{t:Tx}(h:wA p t){s:List Pr}(b:ka s)(a:Bool):PS tb 47 [.agg (cq p),.slice t.fa (bF t.args),.slice a (bm s),.agg (rH t.eT)] (.agg (od (qR p t s))):=by
 have d:PS tb 81 [.agg (cq p)] (.int .i64 (oG p)):=j9 h.ck;have e:PS tb 80 [.agg (cq p),.slice t.fa (bF t.args)] (.int .i64 (kQ p t.fa t.args)):=j9 h.ar;have f:=sA s a b.len b.sz;unfold qR;split
 .rename_i g;obtain⟨l,j,n,i⟩:=g;rw[l]at d;rw[j]at e;rw[n]at f;have c:EA (EK a s t.eT):=⟨(AX i).1,(AX i).2,b.len,b.vs⟩;exact Mt p t.fa t.args a s t.eT h.ft d e f i h.ps (h.al j) h.vs b.g h.bo
   λL o m q r=>FW (EK a s t.eT) c p.fb p.body h.bo (dL (da _) h.bz) (λx k=>JF (EK a s t.eT) c _ (Nat.le_refl _) x (dL (gO k) h.bz) (fk h.bo x k)) L o m q r
 .rename_i g;exact Mu p t.fa t.args a s t.eT h.ft _ _ _ d (λ_=>e) f g
structure Ff(e:Ef):Prop where
 wl:e.writes.length<=16385
 wv:∀p∈e.writes,cQ p.v
 pl:e.cm.length<=16385
 ol:e.out.length<=16
 rl:e.reads.length<=34362884096
def Bj:Ff oL:=⟨aB,aB,aB,aB,aB⟩
def QM{c:Cz}(g:∀k,cQ (c.g k)){l:List aX}(i:cD l){m:MS}(a:jC m):Ff (dS (bN c l m)):=by
 have h:=mf c g l i m a;cases e:bN c l m with
 |ok u b=>
  rw[e]at h;have a:=h.2;have j:=a.NG ae ae;have d:=a.len ae ae;refine⟨by simp only[dS,List.length_map];omega,λp f=>?_,by simp only[dS];omega,a.ou,d⟩;simp only[dS,List.mem_map]at f;obtain⟨k,q,rfl⟩:=f;cases n:b.own k with
  |none=>exact DF
  |some v=>exact a.os _ _ n
 |no r s o b=>
  rw[e]at h;have a:vS b:=h;have j:=a.NG ae ae;have d:=a.len ae ae;exact⟨by simp[dS],by simp[dS],by simp only[dS];omega,by simp[dS],d⟩
def Aq{p:Pc}{t:Tx}(h:wA p t){s:List Pr}(a:ka s):Ff (qR p t s):=by
 unfold qR;split
 .exact QM a.g h.bo (wN _ _ _ B4 h.vs)
 .exact Bj
noncomputable def kj (a:List Pc) (t:Tx) (s:List Pr):Ef:=match lA a t with
 |some p=>qR p t s
 |none=>oL
def jO(s:List Pr)(e:Ef):List Pr:=if e.st=1/\(lu s&&kM e.writes)=true then dm s e.writes else s
structure Dy(procs:List Pc)(t:Tx):Prop where
 len:procs.length<=1048576
 run:∀p∈procs,wA p t
def vG{a:List Pc}{t:Tx}{p:Pc}(h:lA a t=some p):p∈a:=by
 unfold lA at h;split at h
 .rename_i q e;split at h
  .cases h;exact List.mem_of_find?_eq_some e
  .cases h
 .cases h
def Ak{a:List Pc}{t:Tx}(h:Dy a t){s:List Pr}(b:ka s):Ff (kj a t s):=by
 unfold kj;cases e:lA a t with
 |none=>exact Bj
 |some p=>exact Aq (h.run p (vG e)) b
def C0(l:List Pr)(b:Bool)(h:l.length<=1099511627776):PS tb 36 [.slice b (bm l)] (.slice false (bm l)):=by
 refine⟨0,?_⟩;have a:tb.A 36=none:=rfl;have c:l.length*48<=ak:=by simp only[ak];omega
 have d:l.length<=ak:=by simp only[ak];omega
 have e:tb.X=outside:=rfl;simp only[dG,a,e];simp[outside,aI.or,ln,lI,HR,bK,c,d]
def N9{a:List Pc}{t:Tx}(h:Dy a t){s:List Pr}(k:ka s)(b c:Bool):PS tb 18 [.slice b (fY a),.slice c (bm s),.agg (qJ t)] (.tuple [.slice false (bm (jO s (kj a t s))),.agg (od (kj a t s))]):=by
 have f:=Ph a b t h.len λp i=>(h.run p i).ar
 have o:=C0 s c k.len;have j:=Ak h k;refine bM (af:=Zj) rfl rfl ?_;unfold Zj;dsimp only[List.map,aQ,aj,qJ];dsimp only[qJ]at f;unfold kj at j⊢;cases e:lA a t with
 |none=>
  rw[e]at f;have g:jO s oL=s:=by simp[jO]
  rw[g];refine gP trivial (bf f o) (k1 ?_);all_goals rfl
 |some p=>
  rw[e]at f j;have l:=Jc (h.run p (vG e)) k c;simp only at j⊢;generalize qR p t s=d at l j⊢;dsimp only[cq,rH,od]at f l;have r:Pj d.writes:=λq u=>(j.wv q u).2.2
  have i:=P9 s d.writes c d.fw k.len k.sz (by have:=j.wl;omega) r;by_cases m:d.st=1
  .by_cases n:(lu s&&kM d.writes)=true
   .rw[aq n]at i;have g:jO s d=dm s d.writes:=by simp only[jO];rw[aq ⟨m,n⟩]
    rw[g];refine gP (aZ m) (c9 f l i) (k1 ?_);all_goals rfl
   .rw[an n]at i;have g:jO s d=s:=by simp only[jO];rw[an λh=>n h.2]
    rw[g];refine gP (aZ m) (eY f l i o) (k1 ?_);all_goals rfl
  .have g:jO s d=s:=by simp only[jO];rw[an λh=>m h.1]
   rw[g];refine gP m (c9 f l o) (k1 ?_);all_goals rfl
end
section
open Go Go.Dv
def Rs.ms{a:Type}:Rs a->MS
 | .ok _ m=>m
 | .no _ _ _ m=>m
def Cz.w(c:Cz)(g:ByteArray->bX):Cz:={c with g:=g}
def Zc(c:Cz)(m:MS):Prop:=c.all=false->(∀k∈m.reads,k∈c.rd)/\(∀k∈m.cm,k∈c.wr)
structure Gd{α:Type}(F:Cz->MS->Rs α):Prop where
 mono:∀c m k,k∈m.reads->k∈(F c m).ms.reads
 fr:∀c m g',(∀k∈(F c m).ms.reads,g' k=c.g k)->F (c.w g') m=F c m
 inv:∀c m,Zc c m->Zc c (F c m).ms
def Gd.bind{α β:Type}{F:Cz->MS->Rs α}{H:α->Cz->MS->Rs β}(hF:Gd F)(hH:∀a,Gd (H a)):Gd (λc m=>(F c m).bind λa m=>H a c m) where
 mono c m k hk:=by
  have h1:=hF.mono c m k hk;cases e:F c m with
  |ok a m'=>rw[e]at h1;exact(hH a).mono c m' k h1
  |no st cd key m'=>rw[e]at h1;exact h1
 fr c m g' h:=by
  cases e:F c m with
  |ok a m'=>
   simp only[e,Rs.bind]at h⊢;have h1:F (c.w g') m=F c m:=hF.fr c m g' λk hk=>h k (by rw[e]at hk;exact(hH a).mono c m' k hk)
   rw[h1,e];exact(hH a).fr c m' g' h
  |no st cd key m'=>
   simp only[e,Rs.bind]at h⊢;have h1:F (c.w g') m=F c m:=hF.fr c m g' λk hk=>h k (by rw[e]at hk;exact hk)
   rw[h1,e]
 inv c m h:=by
  have h1:=hF.inv c m h;cases e:F c m with
  |ok a m'=>rw[e]at h1;exact(hH a).inv c m' h1
  |no st cd key m'=>rw[e]at h1;exact h1
def Gd.plain{α:Type}{f:MS->Rs α}(h:∀m,(f m).ms.reads=m.reads/\(f m).ms.cm=m.cm):Gd (λ_ m=>f m) where
 mono c m k hk:=by rw[(h m).1];exact hk
 fr c m g' _:=rfl
 inv c m hi:=λha=>by rw[(h m).1,(h m).2];exact hi ha
def Gd.ite{b:Type}{p:Prop}[Decidable p]{F H:Cz->MS->Rs b}(d:Gd F)(e:Gd H):Gd (λc m=>if p then F c m else H c m):=by
 by_cases a:p
 .simpa only[a,bZ]using d
 .simpa only[a,cy]using e
def Gd.ok{b:Type}(a:b):Gd (λ_ m=>Rs.ok a m):=.plain λ_=>⟨rfl,rfl⟩
def Gd.abort{a:Type}(b:Int):Gd (λ_ m=>(bB b m:Rs a)):=.plain λ_=>⟨rfl,rfl⟩
def Gd.set(k:ByteArray)(v:bX):Gd (λ_ m=>Rs.ok () (gk k v m)):=.plain λ_=>⟨rfl,rfl⟩
def Gd.Hq(x:An):Gd (λ_ m=>jd x m):=by
 cases x with
 |ok v=>exact .ok v
 |error e=>exact .abort e
def Gd.tick:Gd (λ_ m=>gW m):=.plain λm=>by unfold gW;split<;>exact⟨rfl,rfl⟩
def Gd.emit(v:bX):Gd (λ_ m=>nM v m):=.plain λm=>by unfold nM;split<;>exact⟨rfl,rfl⟩
def Gd.HF(key:ByteArray):Gd (λc m=>fB c key m) where
 mono c m k hk:=by
  unfold fB;split
  .cases m.own key with
   |some v=>exact hk
   |none=>
    simp only;split
    .exact hk
    .exact gM.2 (.inr hk)
  .exact hk
 fr c m g' h:=by
  unfold fB at h⊢;split at h
  .rename_i hv;simp only[hv,bZ];cases e:m.own key with
   |some v=>rfl
   |none=>
    simp only[e,Cz.w]at h⊢;split at h
    .rename_i hc;simp only[hc,bZ]
    .rename_i hc;simp only[hc];rw[an (by decide),an (by decide),h key (gM.2 (.inl rfl))]
  .rename_i hv;rw[an hv,an hv]
 inv c m hi:=by
  unfold fB;split
  .cases m.own key with
   |some v=>exact hi
   |none=>
    simp only;split
    .exact hi
    .rename_i hc;intro ha;refine⟨λk hk=>?_,(hi ha).2⟩;rcases gM.1 hk with rfl|hk
     .simp only[ha,Bool.not_false,Bool.true_and,jW,Mb]at hc;exact gp.1 hc
     .exact(hi ha).1 k hk
  .exact hi
def Gd.store(key:ByteArray)(v:bX):Gd (λc m=>fe c key v m) where
 mono c m k hk:=by
  unfold fe;split
  .split<;>exact hk
  .exact hk
 fr c m g' h:=rfl
 inv c m hi:=by
  unfold fe;split
  .split
   .exact hi
   .rename_i hc;intro ha;refine⟨(hi ha).1,λk hk=>?_⟩;rcases gM.1 hk with rfl|hk
    .simp only[ha,Bool.not_false,Bool.true_and,jW,Mb]at hc;exact gp.1 hc
    .exact(hi ha).2 k hk
  .exact hi
def Gd.un(b:Int)(a:bX):Gd (λc m=>gj c b a m):=by
 unfold gj;refine .ite (.ite (.Hq _) (.abort _)) (.ite (.ite (.ok _) (.abort _)) (.ite (.ite (.Hq _) (.abort _)) (.ite (.ite (.ok _) (.abort _)) (.ite ?_ (.abort _)))));exact(Gd.HF a.s).bind λv=>.Hq _
def Gd.op(a:Int)(l:List bX):Gd (λc m=>mD c a l m):=by
 unfold mD;split
 .exact .un _ _
 .exact .Hq _
 .exact .abort _
mutual
theorem la(e:aF):Gd (λc m=>cG c e m):=by
 cases e with
 |mk a n s f b=>
  simp only[cG];refine .ite (.ok _) (.ite (.ok _) (.ite ?_ ?_))
  .refine .plain λm=>?_
   cases m.vars s<;>exact⟨rfl,rfl⟩
  .exact(Dm b).bind λl=>.op a l
theorem Dm(l:List aF):Gd (λc m=>dX c l m):=by
 cases l with
 |nil=>simp only[dX];exact .ok _
 |cons e r=>
  simp only[dX];exact(la e).bind λv=>(Dm r).bind λl=>.ok _
end
def Gd.loop{f:Cz->Int->MS->Rs Unit}(a:∀i,Gd (λc m=>f c i m)):∀(n:Nat) (i:Int),Gd (λc m=>j7 (f c) n i m)
 |0,i=>.ok _
 |n+1,i=>by
  simp only[j7];exact(a i).bind λ_=>Gd.loop a n (i+1)
mutual
theorem UR(s:aX):Gd (λc m=>cj c s m):=by
 cases s with
 |mk h name max a b f d g e=>
  simp only[cj];refine .ite ((la a).bind λv=>.set _ _) (.ite ?_ (.ite ?_ (.ite ?_ (.ite ?_ (.ite ?_ (.ite (.abort _) (.ok _)))))))
  .exact(la a).bind λk=>(la b).bind λv=>.ite (.store _ _) (.abort _)
  .exact(la a).bind λk=>.ite (.store _ _) (.abort _)
  .exact(la a).bind λx=>.ite (.ite (ny d) (ny e)) (.abort _)
  .refine(la a).bind λx=>(la b).bind λy=>.ite (.ite (.abort _) ?_) (.abort _)
   refine Gd.loop (f:=λc i m=>(gW m).bind λ_ m=>bN c d (gk name (dt i) m)) (λi=>?_) _ _;exact Gd.tick.bind λ_=>(Gd.set name (dt i)).bind (H:=λ_ c m=>bN c d m) λ_=>ny d
  .exact(la a).bind λv=>.ite (.emit _) (.abort _)
theorem ny(l:List aX):Gd (λc m=>bN c l m):=by
 cases l with
 |nil=>simp only[bN];exact .ok _
 |cons s r=>
  simp only[bN];exact Gd.tick.bind λ_=>(UR s).bind λ_=>ny r
end
def rU(r:Rs Unit):(dS r).reads=r.ms.reads:=by cases r<;>rfl
def II(r:Rs Unit):(dS r).cm=r.ms.cm:=by cases r<;>rfl
def Ei(r:Rs Unit):∀p∈(dS r).writes,p.key∈r.ms.cm:=by
 cases r with
 |ok a m=>
  intro p b;simp only[dS,List.mem_map]at b;obtain⟨k,d,rfl⟩:=b;exact d
 |no e c k m=>intro p b;simp[dS]at b
def xA(l:List aX)(c:Cz)(m:MS)(a:ByteArray->bX)(h:∀k∈(dS (bN c l m)).reads,a k=c.g k):dS (bN (c.w a) l m)=dS (bN c l m):=by
 rw[(ny l).fr c m a (by rw[rU]at h;exact h)]
def F2(l:List aX)(c:Cz)(m:MS)(h:Zc c m)(b:c.all=false):(∀k∈(dS (bN c l m)).reads,k∈c.rd)/\(∀p∈(dS (bN c l m)).writes,p.key∈c.wr):=by
 have a:=(ny l).inv c m h b;rw[rU];exact⟨a.1,λp d=>a.2 _ (Ei _ p d)⟩
end
section
open Go Go.Dv
def L9(l:List Pr)(j:Nat):(l.map (·.key)).getD j E=(l.getD j P0).key:=by
 simp only[List.getD_eq_getElem?_getD,List.getElem?_map];cases l[j]?<;>rfl
def Cq{l:List Pr}:kM l=true↔zQ l:=by
 have e:kM l=true↔uo (l.map (·.key))=true/\∀p∈l,me p.v=true:=by
  simp only[kM,uo,List.all_eq_true,List.mem_range,Iw,vd,aO,List.length_map,L9];constructor
  .intro h;refine⟨λj a=>⟨(h j a).1,(h j a).2.2⟩,λp b=>?_⟩;obtain⟨j,a,rfl⟩:=List.mem_iff_getElem.1 b;have:=(h j a).2.1
   rwa [ux l j a]at this
  .intro h j a;refine⟨(h.1 j a).1,?_,(h.1 j a).2⟩;rw[ux l j a];exact h.2 _ (List.getElem_mem a)
 rw[e,O3];unfold zQ mL dx;rw[List.pairwise_map];constructor
 .rintro⟨⟨c,d⟩,f⟩;exact⟨λp b=>⟨c _ (List.mem_map.2 ⟨p,b,rfl⟩),f p b⟩,d⟩
 .rintro⟨c,d⟩;refine⟨⟨λx g=>?_,d⟩,λp b=>(c p b).2⟩;obtain⟨p,b,rfl⟩:=List.mem_map.1 g;exact(c p b).1
def Fb{l:List Pr}:lu l=true↔Ol l:=by
 unfold lu Ol;rw[aO,Cq];simp[List.any_eq_false]
def Au:∀(a:List Pm) (b:List bX) (m:MS),(fE a b m).reads=m.reads/\(fE a b m).cm=m.cm
 |[],_,_=>by simp[fE]
 |_::_,[],_=>by simp[fE]
 |p::a,v::b,m=>by
  rw[fE];exact Au a b _
abbrev Tx0:Tx:=⟨0,E,true,[],⟨false,true,[],true,[]⟩,0⟩
section
variable(procs:List Pc)(l:List Tx)
abbrev gx(i:Nat):Tx:=l.getD i Tx0
noncomputable def Fl (i:Nat) (g:Gf):Ef:=match lA procs (gx l i)with
 |some p=>if oG p=0/\kQ p (gx l i).fa (gx l i).args=0/\kl (gx l i).eT=true then dS (bN (sM g (gx l i).eT) p.body (fE p.ps (gx l i).args jI))else oL
 |none=>oL
def TT(i:Nat){s:List Pr}(h:lu s=true):kj procs (gx l i) s=Fl procs l i (cX s):=by
 unfold kj Fl qR;cases lA procs (gx l i)with
 |none=>rfl
 |some p=>simp only[h,true_and]
noncomputable def txs:CB kM where
 run:=Fl procs l
 all i:=!kl (gx l i).eT||(gx l i).eT.all
 rd i:=(gx l i).eT.r
 wr i:=(gx l i).eT.w
 fr i g g' h:=by
  unfold Fl at h⊢;cases e:lA procs (gx l i)with
  |none=>rfl
  |some p=>
   rw[e]at h;simp only at h⊢;split
   .rename_i hc;rw[aq hc]at h;exact xA p.body (sM g (gx l i).eT) _ g' h
   .rfl
 rs i g ha k hk:=by
  unfold Fl at hk;cases e:lA procs (gx l i)with
  |none=>rw[e]at hk;simp at hk
  |some p=>
   rw[e]at hk;simp only at hk;split at hk
   .have hr:=Au p.ps (gx l i).args jI;refine(F2 p.body (sM g (gx l i).eT) _ (λ_=>?_) ?_).1 k hk
    .rw[hr.1,hr.2];exact⟨aB,aB⟩
    .simp only[Bool.or_eq_false_iff]at ha;exact ha.2
   .simp at hk
 ws i g k ha hk:=by
  obtain⟨_,_,q,hq,rfl⟩:=hk;unfold Fl at hq;cases e:lA procs (gx l i)with
  |none=>rw[e]at hq;simp at hq
  |some p=>
   rw[e]at hq;simp only at hq;split at hq
   .have hr:=Au p.ps (gx l i).args jI;refine(F2 p.body (sM g (gx l i).eT) _ (λ_=>?_) ?_).2 q hq
    .rw[hr.1,hr.2];exact⟨aB,aB⟩
    .simp only[Bool.or_eq_false_iff]at ha;exact ha.2
   .simp at hq
def Ia{s:List Pr}(h:lu s=true)(e:Ef):lu (jO s e)=true/\cX (jO s e)=tZ kM e (cX s):=by
 unfold jO tZ;rw[h,Bool.true_and];split
 .rename_i c;have a:=Cq.1 c.2;have b:=Fb.1 h;exact⟨Fb.2 (Mv b a),funext λk=>oc b.1.2 a k⟩
 .exact⟨h,rfl⟩
noncomputable def ij (s:List Pr):Nat->List Pr
 |0=>s
 |n+1=>jO (ij s n) (kj procs (gx l n) (ij s n))
noncomputable def jo (s:List Pr) (i:Nat):Ef:=kj procs (gx l i) (ij procs l s i)
def Oe{s:List Pr}(h:lu s=true):∀n,lu (ij procs l s n)=true/\cX (ij procs l s n)=(txs procs l).st (cX s) n
 |0=>⟨h,rfl⟩
 |n+1=>by
  obtain⟨a,b⟩:=Oe h n;obtain⟨c,d⟩:=Ia a (kj procs (gx l n) (ij procs l s n));refine⟨c,?_⟩
  show cX (jO _ _)=_
  rw[d,TT procs l n a,b];rfl
end
end
section
open Go Go.Dv
def mA{f:FuncId}{af:au}(b:tb.A f=some af){args:List PV}{P:Int->Prop}(c:args.length=af.nparams)
  (h:W tb af.body {env:=aj 0 (args.map aQ),heap:=[],next:=0,marks:=[0]} (ic af.results λv s=>∃n:{n:Int//P n},bE s.heap dep v=some (.int .i64 n.1)))(a:af.rs=false:=by rfl):∃n:Int,PS tb f args (.int .i64 n)/\P n:=by
 obtain⟨⟨n,d⟩,h⟩:=nq (T:=tb) b c h (hrs:=a);exact⟨n,h,d⟩
def tM{f:FuncId}{af:au}(b:tb.A f=some af){args:List PV}{P:Bool->Prop}(c:args.length=af.nparams)
  (h:W tb af.body {env:=aj 0 (args.map aQ),heap:=[],next:=0,marks:=[0]} (ic af.results λv s=>∃n:{n:Bool//P n},bE s.heap dep v=some (.bool n.1)))(a:af.rs=false:=by rfl):∃n:Bool,PS tb f args (.bool n)/\P n:=by
 obtain⟨⟨n,d⟩,h⟩:=nq (T:=tb) b c h (hrs:=a);exact⟨n,h,d⟩
def BU(c:Int):∃b,PS tb 222 [.int .i32 c] (.bool b)/\True:=by
 refine tM (af:=a222) rfl rfl ?_;unfold a222;dsimp only[List.map,aQ,aj];refine hN trivial (k2 ?_ ?_)<;>(repeat with_reducible intro a)
 all_goals exact⟨⟨_,trivial⟩,rfl⟩
noncomputable def Tr (c:Int):Bool:=Classical.choose (BU c)
def AT(c:Int):PS tb 222 [.int .i32 c] (.bool (Tr c)):=(Dn (BU c)).1
def KI(s:ByteArray):∃b,PS tb 224 [.str s] (.bool b)/\True:=by
 refine tM (af:=Tv) rfl rfl ?_;unfold Tv;dsimp only[List.map,aQ,aj];repeat'(first|(simp(disch:=omega) only[go_sem,seval,reduceCtorEq])|with_reducible exact Ev.mk|((first|apply b5|apply bO)<;>intro a c<;>(simp(disch:=omega) only[go_sem,seval,reduceCtorEq,a])<;>clear a))
 all_goals exact⟨⟨_,trivial⟩,rfl⟩
noncomputable def Ym (s:ByteArray):Bool:=Classical.choose (KI s)
def PM(s:ByteArray):PS tb 224 [.str s] (.bool (Ym s)):=(Dn (KI s)).1
def Ai(a:Int):∃n:Int,PS tb 264 [.int .i64 a] (.int .i64 n)/\(10<=a/\a<=15\/22<=a/\a<=24->n=(if a<=15 then 2 else 1)):=by
 refine mA (af:=Ky) rfl rfl ?_;unfold Ky;dsimp only[List.map,aQ,aj];repeat'(first|(simp(disch:=omega) only[go_sem,seval,reduceCtorEq])|with_reducible exact Ev.mk|((first|apply b5|apply bO)<;>intro b c<;>(simp(disch:=omega) only[go_sem,seval,reduceCtorEq,b])<;>clear b))
 all_goals exact⟨⟨_,by intro h;split<;>omega⟩,rfl⟩
def NK(K:Ex->St->Prop)(b:ByteArray)(f:∀e,(e=[]\/∃x y,e=[(3,x),(25,y)])->K .normal ⟨(0,.p (.str b))::e,[],0,[0]⟩)(g:∀(n:Int) d,ah d.env 2=some (.p (.int .i64 n))->K .ret d):∀(r:List (Nat×Int)) (e:List (Nat×DV)),(e=[]\/∃x y,e=[(3,x),(25,y)])->
   nb tb (W tb yR) [.o 9 (.extract (.t 7) 1),.o 10 (.extract (.t 7) 2),.o 3 (.move (.t 9)),.o 4 (.move (.t 10))] 7 [6,7,5,8] (r.map lR) ⟨(0,.p (.str b))::e,[],0,[0]⟩ K
 |[],e,i=>by
   rw[List.map_nil,qX];exact f _ i
 |(p,c)::r,e,i=>by
   have k:=NK K b f g r;have l:=AT c;rw[List.map_cons,lR,BM];generalize j:FK tb (W tb yR) [.o 9 (.extract (.t 7) 1),.o 10 (.extract (.t 7) 2),.o 3 (.move (.t 9)),.o 4 (.move (.t 10))] 7 [6,7,5,8] (r.map lR) _ K=m;have o:∀(x y:DV),m .normal ⟨[(0,.p (.str b)),(3,x),(25,y)],[],0,[]⟩:=λx y=>by
    rw[<-j,H7];exact k _ (.inr ⟨_,_,rfl⟩)
   have q:∀(n:Int) d,ah d.env 2=some (.p (.int .i64 n))->m .ret d:=λn d h=>by
    rw[<-j,UM];exact g n _ h
   clear j k f g;unfold yR;rcases i with rfl|⟨x,y,rfl⟩
   .repeat'(first|exact l|(simp(disch:=omega) only[go_sem,seval,reduceCtorEq])|with_reducible exact Ev.mk|apply gb|((first|apply b5|apply bO)<;>intro a s<;>(simp(disch:=omega) only[go_sem,seval,reduceCtorEq,a])<;>clear a))
    all_goals first|exact o _ _|exact q _ _ rfl
   .repeat'(first|exact l|(simp(disch:=omega) only[go_sem,seval,reduceCtorEq])|with_reducible exact Ev.mk|apply gb|((first|apply b5|apply bO)<;>intro a s<;>(simp(disch:=omega) only[go_sem,seval,reduceCtorEq,a])<;>clear a))
    all_goals first|exact o _ _|exact q _ _ rfl
def Jw(s:ByteArray):∃n:Int,PS tb 223 [.str s] (.int .i64 n)/\True:=by
 refine mA (af:=Rr) rfl rfl ?_;unfold Rr;dsimp only[List.map,aQ,aj];refine nJ ?_;refine Qg (b:=s) rfl rfl ?_;refine NK _ s ?_ ?_ _ [] (.inl rfl)
 .rintro e (rfl|⟨x,y,rfl⟩)
  .refine nJ ?_;exact⟨⟨_,trivial⟩,rfl⟩
  .refine nJ ?_;exact⟨⟨_,trivial⟩,rfl⟩
 .intro n a h
  (try simp(disch:=omega) only[go_sem,seval,reduceCtorEq,h])
  exact⟨⟨_,trivial⟩,rfl⟩
end
end Go.Dv.Tryz
