/- Lemmas for the law of this claim. -/
import Derived.Test.YtcphhjkcgikdgaaGreatDoorP30
import Derived.Test.YtcphhjkcgikdgaaGreatDoorP26
import Derived.Test.YtcphhjkcgikdgaaGreatDoorP25
import Derived.Test.YtcphhjkcgikdgaaGreatDoorP24
import Derived.Test.YtcphhjkcgikdgaaGreatDoorP29
set_option linter.all false
set_option maxRecDepth 100000
set_option maxHeartbeats 4000000
namespace Go.Dv.Tryz
section
open Go Go.Dv
def Ho(a:List Pr):Heap:=[(3,.var false [.func 57 [.ptr 2 0]]),(2,.var false [.func 56 [.ptr 0 0]]),(1,.row false 4 (aT a)),(0,.var false [.ref 1 a.length 0 a.length])]
structure LB(L:Heap)(nx:Nat):Prop where
 ge:4<=nx
 ba:∀c,nx<=c->aD c L=L
 al:∀c,nx<=c->de c L=true
 no:∀c,nx<=c\/c<4->ag L c=none
def LB.cons{L:Heap}{nx:Nat}{b:bq}(h:LB L nx)(d:b.below (nx+1)=true:=by rfl):LB ((nx,b)::L) (nx+1):=by
 have e:=h.ge;exact⟨ae,λc a=>by rw[aD,aq ae,h.ba c ae],λc a=>by simp only[de,aL];exact⟨bq.fM a d,h.al c ae⟩,
  λc a=>by rw[aw,ak ae];exact h.no c ae⟩
def NK:LB [] 4:=⟨Nat.le_refl _,λ_ _=>rfl,λ_ _=>rfl,λ_ _=>rfl⟩
def LB.ex{L:Heap}{nx:Nat}(h:LB L nx):∃x,nx=x+4:=⟨nx-4,by have:=h.ge;omega⟩
structure LG(L:Heap)(x:Nat):Prop where
 n0:∀o,ag (L++Ho o) (x+4)=none
 n1:∀o,ag (L++Ho o) (x+5)=none
 b0:∀o,aD (x+4) (L++Ho o)=L++Ho o
 l0:∀o,de (x+4) (L++Ho o)=true
 b1:∀o,aD (x+5) (L++Ho o)=L++Ho o
 l1:∀o,de (x+5) (L++Ho o)=true
 g0:∀o,ag (L++Ho o) 0=some (.var false [.ref 1 o.length 0 o.length])
 g1:∀o,ag (L++Ho o) 1=some (.row false 4 (aT o))
 g2:∀o,ag (L++Ho o) 2=some (.var false [.func 56 [.ptr 0 0]])
 g3:∀o,ag (L++Ho o) 3=some (.var false [.func 57 [.ptr 2 0]])
 s1:∀o b,aC (L++Ho o) 1 b=L++aC (Ho o) 1 b
 s0:∀o b c,aC (L++aC (Ho o) 1 b) 0 c=L++aC (aC (Ho o) 1 b) 0 c
 s2:∀o b,ag (L++aC (Ho o) 1 b) 0=some (.var false [.ref 1 o.length 0 o.length])
def LB.lg{L:Heap}{x:Nat}(h:LB L (x+4)):LG L x:=by
 have i:∀o c,x+4<=c->aD c (L++Ho o)=L++Ho o:=λo c a=>by
  rw[ky,h.ba c a];have g:3<c:=ae;have d:2<c:=ae;have e:1<c:=ae;have f:0<c:=ae;simp[Ho,aD,g,d,e,f]
 have j:∀o c,x+4<=c->de c (L++Ho o)=true:=λo c a=>by
  rw[pD,h.al c a];have d:2<c:=ae;have e:1<c:=ae;have f:0<c:=ae;simp[Ho,de,bq.below,below,dep,d,e,f]
 have k:∀o c,x+4<=c->ag (L++Ho o) c=none:=λo c a=>by
  rw[dK (h.no c (.inl a))];have g:(3==c)=false:=fy.2 ae;have d:(2==c)=false:=fy.2 ae;have e:(1==c)=false:=fy.2 ae;have f:(0==c)=false:=fy.2 ae;simp[Ho,ag,g,d,e,f]
 exact⟨λo=>k o _ ae,λo=>k o _ ae,λo=>i o _ ae,λo=>j o _ ae,λo=>i o _ ae,λo=>j o _ ae,
  λo=>by rw[dK (h.no 0 (.inr ae))];rfl,λo=>by rw[dK (h.no 1 (.inr ae))];rfl,λo=>by rw[dK (h.no 2 (.inr ae))];rfl,λo=>by rw[dK (h.no 3 (.inr ae))];rfl,
  λo b=>iO (h.no 1 (.inr ae)),λo b c=>iO (h.no 0 (.inr ae)),λo b=>by rw[dK (h.no 0 (.inr ae))];rfl⟩
abbrev Aq(p:Pr):List DV:=[.p (.str p.key),.p (.int .i64 p.v.k),.p (.int .i64 p.v.n),.p (.str p.v.s)]
def JG(o:List Pr)(p:Pr):aT o++[[.str p.key,.int .i64 p.v.k,.int .i64 p.v.n,.str p.v.s]]=aT (o++[p]):=by simp[aT,wM]
def KL(a b c d:PV):bT 4 [[a,b,c,d]]=true:=rfl
def Uk(o:List Pr)(p:Pr):aC (aC (Ho o) 1 (.row false 4 (aT (o++[p])))) 0 (.var false [.ref 1 (o.length+1) 0 (o.length+1)])=Ho (o++[p]):=by simp[Ho,aC]
section
variable{L:Heap}{nx:Nat}
def CM(h:LB L nx)(o:List Pr)(c:o.length<=2199023255552)(p:Pr):BS tb 56 [.agg (Aq p),.ptr 0 0] (L++Ho o) nx (.tuple []) (L++Ho (o++[p])) nx:=by
 obtain⟨x,rfl⟩:=h.ex;have f:=h.lg;have a:(o.length+1)*48<=an:=by simp only[an];omega
 have b:o.length+1<=an:=by simp only[an];omega
 refine ib (af:=X5) rfl rfl ?_;unfold X5;dsimp only[ai];exact gN (tD f.n0 f.n1 f.b0 f.l0 f.b1 f.l1 f.g0 f.g1 f.s0 f.s1 f.s2 @bh @JG @Uk a b @KL) k0
def zZ(h:LB L nx)(o:List Pr)(c:o.length<=2199023255552)(p:Pr):BS tb 57 [.agg (Aq p),.ptr 2 0] (L++Ho o) nx (.tuple []) (L++Ho (o++one p)) nx:=by
 obtain⟨x,rfl⟩:=h.ex;have f:=h.lg;have d:=CM (h.cons (b:=.var false (Aq p))) o c p;have a:=CD p;dsimp only[wM]at a;refine ib (af:=X1) rfl rfl ?_;unfold X1;dsimp only[ai];unfold one;cases e:rV p with
 |true=>
  rw[e]at a;rw[aq rfl,List.append_nil];exact gP (o9 f.n0 f.n1 f.b0 f.l0 f.b1 f.l1 f.g0 f.g1 f.g2 f.g3) a k0
 |false=>
  rw[e]at a;rw[ak (by decide)];exact gR (o9 f.n0 f.n1 f.b0 f.l0 f.b1 f.l1 f.g0 f.g1 f.g2 f.g3) a d k0
def Sq(h:LB L nx)(o:List Pr)(a:o.length<=2199023255552)(q p:Pr):BS tb 61 [.agg (Aq q),.agg (Aq p),.ptr 3 0] (L++Ho o) nx (.tuple []) (L++Ho (o++one p)) nx:=by
 obtain⟨x,rfl⟩:=h.ex;have f:=h.lg;have c:=zZ ((h.cons (b:=.var false (Aq q))).cons (b:=.var false (Aq p))) o a p;refine ib (af:=Yz) rfl rfl ?_;unfold Yz;dsimp only[ai];exact gR (o9 f.n0 f.n1 f.b0 f.l0 f.b1 f.l1 f.g0 f.g1 f.g2 f.g3) trivial c k0
end
end
section
open Go Go.Dv
def PH(a b:Pr)(o:List Pr):BS tb 60 [.agg (Aq a),.agg (Aq b)] (Ho o) 4 (.p (.int .i64 (qb a.key b.key))) ((5,.var false (Aq b))::(4,.var false (Aq a))::Ho o) 6:=by
 have f:=NK.lg;have c:=IT a.key b.key;refine wO (af:=YQ) rfl rfl ?_;unfold YQ;dsimp only[ai];have d:ag (Ho o) 4=none:=f.n0 o;have e:ag (Ho o) 5=none:=f.n1 o;exact gP (bA d e) c k0
def uK(l:List Pr):dj l []=l:=by cases l with
 |nil=>rw[dj];rfl
 |cons a r=>rw[dj]
def Io(a:Env)(o:List Pr)(h:a.all (λx=>below 4 dep x.2)=true):gz .reset ⟨a,Ho o,4,[4,4]⟩=some ⟨a,Ho o,4,[4,4]⟩:=by
 have f:=NK.lg;have c:aD 4 (Ho o)=Ho o:=f.b0 o;have b:de 4 (Ho o)=true:=f.l0 o;rw[<-mT]at b;simp[gz,jB,h,c,b]
def HH(a:Env)(o:List Pr)(b c:bq)(h:a.all (λx=>below 4 dep x.2)=true):gz .reset ⟨a,(5,b)::(4,c)::Ho o,6,[4,4]⟩=some ⟨a,Ho o,4,[4,4]⟩:=by
 have f:=NK.lg;have e:aD 4 (Ho o)=Ho o:=f.b0 o;have d:de 4 (Ho o)=true:=f.l0 o;rw[<-mT]at d;simp[gz,jB,h,e,d,aD]
def MgI(a b:List Pr)(c d:Bool)(j:Nat)(e:St):Prop:=∃(i k:Nat) (o:List Pr),(a.length-i)+(b.length-k)=j/\i<=a.length/\k<=b.length/\o.length<=i+k/\o++dj (a.drop i) (b.drop k)=dj a b/\
 gz .reset e=some ⟨[(0,.p (.slice c (aT a))),(1,.p (.slice d (aT b))),(2,.func 60 []),(3,.func 56 [.ptr 0 0]),(4,.func 57 [.ptr 2 0]),(5,.func 61 [.ptr 3 0]),(12,.p (.int .i64 i)),(13,.p (.int .i64 k))],Ho o,4,[4,4]⟩
def zu(p:Pr):(one p).length<=1:=by unfold one;split<;>simp
def Qh(a b:ByteArray)(h:slt b a=true):0<qb a b:=by
 have c:¬qb a b<0:=by rw[Cp,og h];decide
 have d:¬qb a b=0:=by rw[Ll];exact(kf h).symm
 omega
def PJ(a b:List Pr)(H I:Bool)(N:a.length<=1099511627776)(O:b.length<=1048576):BS tb 59 [.p (.slice H (aT a)),.p (.slice I (aT b)),.func 60 [],.func 56 [.ptr 0 0],.func 57 [.ptr 2 0],.func 61 [.ptr 3 0]] (Ho []) 4 (.tuple []) (Ho (dj a b)) 4:=by
 refine ib (af:=a59) rfl rfl ?_;unfold a59;dsimp only[ai];refine ew ?_;refine bL (MgI a b H I) ?_ (a.length+b.length) _
  ⟨0,0,[],ae,ae,ae,az,az,Io _ _ (by simp[below,dep])⟩
 rintro j P ⟨i,k,o,Q,J,K,R,c,L⟩;refine aH rfl ?_;rw[I5,L,Lq];clear L;have f:=NK.lg;have g:∀o,ag (Ho o) 4=none:=f.n0;have d:∀o,aD 4 (Ho o)=Ho o:=f.b0;have e:∀o,de 4 (Ho o)=true:=f.l0;unfold Oi;have x:(0:Int)<=i:=ae;have l:(0:Int)<=k:=ae;by_cases M:i<a.length
 .have u:(i:Int)<a.length:=ae;have p:¬(i:Int)=a.length:=ae;have v:a.drop i=a[i]::a.drop (i+1):=List.drop_eq_getElem_cons M;have q:=kc a i M;by_cases y:k<b.length
  .have r:(k:Int)<b.length:=ae;have w:¬(k:Int)=b.length:=ae;have s:b.drop k=b[k]::b.drop (k+1):=List.drop_eq_getElem_cons y;have m:=kc b k y;have n:=PH a[i] b[k] o;have C:=(NK.cons (b:=.var false (Aq a[i]))).cons (b:=.var false (Aq b[k]));rw[v,s,dj]at c;by_cases z:slt a[i].key b[k].key=true
   .rw[aq z,<-s]at c;have A:qb a[i].key b[k].key<0:=(Cp _ _).2 z;have t:=CM C o ae a[i];refine gR (Fi x l u p r w q m @bh g d e A) trivial (bA n t) (k1 ?_);exact LI.next (m':=j-1) ae ⟨i+1,k,o++[a[i]],ae,ae,K,by simp only[List.length_append,List.length_cons,List.length_nil];omega,by simpa using c,HH _ _ _ _ (by simp[below,dep])⟩
   .rw[ak z]at c;have A:¬qb a[i].key b[k].key<0:=λh=>z ((Cp _ _).1 h)
    have D:=zu b[k];by_cases B:slt b[k].key a[i].key=true
    .rw[aq B,<-v]at c;have E:=Qh _ _ B;have t:=zZ C o ae b[k];refine gR (K3 x l u p r w q m @bh g d e A E) trivial (bA n t) (k1 ?_);exact LI.next (m':=j-1) ae ⟨i,k+1,o++one b[k],ae,J,ae,by simp only[List.length_append];omega,by rw[List.append_assoc];exact c,HH _ _ _ _ (by simp[below,dep])⟩
    .rw[ak B]at c;have E:¬0<qb a[i].key b[k].key:=by
      have:=(Ll a[i].key b[k].key).2 (kq (by simpa using z) (by simpa using B));omega
     have t:=Sq C o ae a[i] b[k];refine gR (K3 x l u p r w q m @bh g d e A E) trivial (bA n t) (k1 ?_);exact LI.next (m':=j-2) ae ⟨i+1,k+1,o++one b[k],ae,ae,ae,by simp only[List.length_append];omega,by rw[List.append_assoc];exact c,HH _ _ _ _ (by simp[below,dep])⟩
  .have F:k=b.length:=ae;subst F;have t:=CM NK o ae a[i];have r:¬(b.length:Int)<b.length:=ae;rw[v,List.drop_eq_nil_of_le (Nat.le_refl _),uK]at c;refine gR (o9 x l u p r q @bh g d e) trivial t (k1 ?_);exact LI.next (m':=j-1) ae ⟨i+1,b.length,o++[a[i]],ae,ae,K,by simp only[List.length_append,List.length_cons,List.length_nil];omega,by rw[List.drop_eq_nil_of_le (Nat.le_refl _),uK];simpa using c,Io _ _ (by simp[below,dep])⟩
 .by_cases y:k<b.length
  .have G:i=a.length:=ae;subst G;have u:¬(a.length:Int)<a.length:=ae;have r:(k:Int)<b.length:=ae;have s:b.drop k=b[k]::b.drop (k+1):=List.drop_eq_getElem_cons y;have m:=kc b k y;have t:=zZ NK o ae b[k];have D:=zu b[k];rw[s,List.drop_eq_nil_of_le (Nat.le_refl _),dj,List.flatMap_cons]at c;refine gR (rG x l u r m @bh g d e) trivial t (k1 ?_);exact LI.next (m':=j-1) ae ⟨a.length,k+1,o++one b[k],ae,J,ae,by simp only[List.length_append];omega,by rw[List.drop_eq_nil_of_le (Nat.le_refl _),dj,List.append_assoc];exact c,Io _ _ (by simp[below,dep])⟩
  .have u:¬(i:Int)<a.length:=ae;have r:¬(k:Int)<b.length:=ae;rw[List.drop_eq_nil_of_le ae,List.drop_eq_nil_of_le ae,uK,List.append_nil]at c;subst c;exact gN (dP u r @bh d e) k0
def Tn(l:List Pr):(aT l).take l.length=aT l:=List.take_of_length_le (by rw[bh];omega)
def iJ(s:List Pr):Bool:=gW s&&!s.any rV
def D9(l:List Pr)(b:Bool)(c:l.length<=1099511627776)(f:P9 l):PS tb 54 [.slice b (aT l)] (.bool (iJ l)):=by
 have a:=Bb l b c f;obtain⟨n,g,h⟩:=ND l b 58 [] rV c λp _=>CD p
 have d:PS tb 96 [.slice b (aT l),.func 58 []] (.bool (l.any rV)):=by
  refine bD (af:=Y1) rfl rfl ?_;unfold Y1;dsimp only[List.map,aI,ai];exact gP h g k0
 refine bD (af:=Yd) rfl rfl ?_;unfold Yd;dsimp only[List.map,aI,ai];unfold iJ;cases e:gW l with
 |false=>
  rw[e]at a;exact gP trivial (bA a d) k0
 |true=>
  rw[e]at a;exact gP trivial (bA a d) k0;all_goals simp
def Ad(l w:List Pr)(b c:Bool)(f:l.length<=1099511627776)(i:P9 l)(j:w.length<=1048576)(e:P9 w):
  PS tb 30 [.slice b (aT l),.slice c (aT w)] (if iJ l&&gW w then .tuple [.slice false (aT (dj l w)),.int .i64 0]else .tuple [.slice true [],.int .i64 1]):=by
 have a:=D9 l b f i;have d:=Bb w c ae e;have k:=PJ l w b c f j;refine bD (af:=Zz) rfl rfl ?_;unfold Zz;dsimp only[List.map,aI,ai];cases g:iJ l with
 |false=>
  rw[g]at a;exact gP trivial a k0;all_goals simp
 |true=>
  rw[g]at a;cases h:gW w with
  |false=>
   rw[h]at d;exact gP trivial (bA a d) k0;all_goals simp
  |true=>
   rw[h]at d;have m:∀o,ag (Ho o) 0=some (.var false [.ref 1 o.length 0 o.length]):=λ_=>rfl
   have n:∀o,ag (Ho o) 1=some (.row false 4 (aT o)):=λ_=>rfl
   exact gR (dP eW m n @bh Tn) (bA a d) k k0;all_goals simp
end
section
open Go Go.Dv
def LZ(l:List Pc)(b:Bool)(f:FuncId)(a:List PV)(q:Pc->Bool)(y:l.length<=1048576)(u:∀p∈l,PS tb f (.agg (eV p)::a) (.bool (q p)))(m:bP (aS [] 5) (a.map aI)=some a:=by rfl):
  ∃n:Int,PS tb 37 [.slice b (eL l),.func f a] (.int .i64 n)/\((n=-1/\l.find? q=none)\/∃(i:Nat) (h:i<l.length),n=i/\l.find? q=some l[i]):=by
 have w:W tb a37.body {env:=ai 0 ([PV.slice b (eL l),PV.func f a].map aI),heap:=[],next:=0,marks:=[0]} (eX a37.results λv s=>∃n:{n:Int//((n=-1/\l.find? q=none)\/∃(i:Nat) (h:i<l.length),n=i/\l.find? q=some l[i])},aS s.heap dep v=some (.int .i64 n.1)):=by
  unfold a37;dsimp only[List.map,aI,ai];refine gN @kr (k1 ?_);refine bL (λj o=>∃i:Nat,i+j=l.length/\l.find? q=(l.drop i).find? q/\o=⟨[(0,.p (.slice b (eL l))),(1,.p (.func f a)),(7,.p (.int .i64 l.length)),(8,.p (.int .i64 i))],[],0,[0]⟩) ?_ l.length _ ⟨0,ae,rfl,rfl⟩;rintro j o ⟨i,z,d,rfl⟩;refine aH O1.eq_1 ?_;rcases bS i l.length with c|c
  .have k:(i:Int)<l.length:=ae;have r:(0:Int)<=i:=ae;have t:=CO l i c;have g:=u _ (List.getElem_mem c);dsimp only[eV]at g;rw[List.drop_eq_getElem_cons c,List.find?_cons]at d;cases e:q l[i]with
   |true=>
    rw[e]at g d;refine gP (dP k r @kr t m) g (k1 ?_);exact⟨⟨i,.inr ⟨i,c,rfl,d⟩⟩,rfl⟩
   |false=>
    rw[e]at g d;refine gP (dP k r @kr t m) g (k1 ?_);exact LI.next (m':=j-1) ae ⟨i+1,ae,d,rfl⟩
  .have k:¬(i:Int)<l.length:=ae;refine gN k (k1 ?_);rw[List.drop_eq_nil_of_le c]at d;exact⟨⟨-1,.inl ⟨rfl,d⟩⟩,rfl⟩
 obtain⟨⟨n,x⟩,h⟩:=jg (T:=tb) (f:=37) (af:=a37) rfl rfl w;exact⟨n,h,x⟩
noncomputable def vJ (p:Pc) (a:Bool) (args:List dY):Int:=Classical.epsilon λe=>PS tb 80 [.agg (eV p),.slice a (cy args)] (.int .i64 e)
noncomputable def I2 (p:Pc):Int:=Classical.epsilon λe=>PS tb 81 [.agg (eV p)] (.int .i64 e)
def SO(t:Tx)(p:Pc):Bool:=decide (p.name=t.proc)
noncomputable def mo (a:List Pc) (t:Tx):Option Pc:=match a.find? (SO t)with
 |some p=>if vJ p t.fa t.args=0 then some p else none
 |none=>none
def We(p:Pc)(t:Tx):PS tb 79 [.agg (eV p),.dT (nM t)] (.bool (SO t p)):=by
 refine bD (af:=YB) rfl rfl ?_;unfold YB;dsimp only[List.map,aI,ai,eV,nM];refine gN trivial (k1 ?_);all_goals simp[SO]
abbrev pc0:List PV:=[.str ⟨#[]⟩,.slice true [],.slice true []]
def N8(a:List Pc)(t:Tx):Prop:=∀p∈a,∃e,PS tb 80 [.agg (eV p),.slice t.fa (cy t.args)] (.int .i64 e)
def S3{a:List Pc}{t:Tx}(h:N8 a t){p:Pc}(b:p∈a):PS tb 80 [.agg (eV p),.slice t.fa (cy t.args)] (.int .i64 (vJ p t.fa t.args)):=od (h p b)
def P4(a:List Pc)(b:Bool)(t:Tx)(m:a.length<=1048576)(o:N8 a t):PS tb 46 [.slice b (eL a),.agg (nM t)] (match mo a t with
  |some p=>.tuple [.agg (eV p),.bool true]
  |none=>.tuple [.agg pc0,.bool false]):=by
 obtain⟨n,f,e⟩:=LZ a b 79 [.dT (nM t)] (SO t) m λp _=>We p t
 refine bD (af:=a46) rfl rfl ?_;unfold a46;dsimp only[List.map,aI,ai,nM];dsimp only[nM]at f;unfold mo;rcases e with⟨rfl,e⟩|⟨i,l,rfl,e⟩
 .rw[e];exact gP @kr f k0;all_goals rfl
 .rw[e];have g:¬(i:Int)<0:=ae;have h:(0:Int)<=i:=ae;have j:=CO a i l;have k:=S3 o (List.getElem_mem l);dsimp only[eV]at k;by_cases c:vJ a[i] t.fa t.args=0
  .simp only[aq c];repeat'(first|exact f|exact k|(simp(disch:=omega) only[go_sem,seval,reduceCtorEq,kr,g,h,j,bU c])|with_reducible exact Ev.mk|apply cT|((first|apply aY|apply aQ)<;>intro d q<;>(simp(disch:=omega) only[go_sem,seval,reduceCtorEq,kr,g,h,j,bU c,d])<;>clear d))
   all_goals first|rfl|contradiction
  .simp only[ak c];repeat'(first|exact f|exact k|(simp(disch:=omega) only[go_sem,seval,reduceCtorEq,kr,g,h,j,c])|with_reducible exact Ev.mk|apply cT|((first|apply aY|apply aQ)<;>intro d q<;>(simp(disch:=omega) only[go_sem,seval,reduceCtorEq,kr,g,h,j,c,d])<;>clear d))
   all_goals first|rfl|contradiction
end
section
open Go Go.Dv
structure Ij(p:Pc)(t:Tx):Prop where
 ck:∃e,PS tb 81 [.agg (eV p)] (.int .i64 e)
 ar:∃e,PS tb 80 [.agg (eV p),.slice t.fa (cy t.args)] (.int .i64 e)
 al:vJ p t.fa t.args=0->t.args.length=p.ps.length
 bo:dU p.body
 bz:eZ p.body<=1099511627776
 ps:p.ps.length<=1048576
 vs:∀v∈t.args,er v
 ft:oO t.dx
structure lS(s:List Pr):Prop where
 len:s.length<=1099511627776
 vs:∀p∈s,er p.v
def lS.sz{s:List Pr}(h:lS s):P9 s:=λp a=>(h.vs p a).2.2
def lS.g{s:List Pr}(h:lS s)(a:ByteArray):er (cD s a):=by
 unfold cD;split
 .rename_i p e;exact h.vs p (List.mem_of_find?_eq_some e)
 .exact Ii
abbrev Je(g:ByteArray->dY)(f:Ft):Cz:=⟨g,f.all,f.r,f.w⟩
noncomputable def xU (p:Pc) (t:Tx) (s:List Pr):Ef:=
 if I2 p=0/\vJ p t.fa t.args=0/\iJ s=true/\dk t.dx=true then jh (cJ (Je (cD s) t.dx) p.body (jU p.ps t.args B0))else oE
def Ue{p:Pc}{t:Tx}(h:Ij p t){s:List Pr}(b:lS s)(a:Bool):PS tb 47 [.agg (eV p),.slice t.fa (cy t.args),.slice a (aT s),.agg (jZ t.dx)] (.agg (iP (xU p t s))):=by
 have d:PS tb 81 [.agg (eV p)] (.int .i64 (I2 p)):=od h.ck;have e:PS tb 80 [.agg (eV p),.slice t.fa (cy t.args)] (.int .i64 (vJ p t.fa t.args)):=od h.ar;have f:=D9 s a b.len b.sz;unfold xU;split
 .rename_i g;obtain⟨k,i,l,n⟩:=g;rw[k]at d;rw[i]at e;rw[l]at f;have c:Ht (EV a s t.dx):=⟨h.ft.1.1,h.ft.2.1,b.len,b.vs⟩;exact Mw p t.fa t.args a s t.dx h.ft d e f n h.ps (h.al i) h.vs b.g h.bo
   λL o m q r=>Ge (EV a s t.dx) c p.fb p.body h.bo (ep (eu _) h.bz) (λx j=>ID (EV a s t.dx) c _ (Nat.le_refl _) x (ep (j6 j) h.bz) (jC h.bo x j)) L o m q r
 .rename_i g;exact Mf p t.fa t.args a s t.dx h.ft _ _ _ d (λ_=>e) f g
structure rP(e:Ef):Prop where
 wl:e.writes.length<=16385
 wv:∀p∈e.writes,er p.v
 pl:e.dm.length<=16385
 ol:e.out.length<=16
 rl:e.reads.length<=34362884096
def A9:rP oE:=⟨az,az,az,az,az⟩
def R8{c:Cz}(g:∀k,er (c.g k)){l:List cl}(i:dU l){m:MS}(a:pN m):rP (jh (cJ c l m)):=by
 have h:=ob c g l i m a;cases e:cJ c l m with
 |ok u b=>
  rw[e]at h;have a:=h.2;have j:=a.OO ae ae;have d:=a.len ae ae;refine⟨by simp only[jh,List.length_map];omega,λp f=>?_,by simp only[jh];omega,a.ou,d⟩;simp only[jh,List.mem_map]at f;obtain⟨k,q,rfl⟩:=f;cases n:b.own k with
  |none=>exact Ii
  |some v=>exact a.os _ _ n
 |no r s o b=>
  rw[e]at h;have a:B3 b:=h;have j:=a.OO ae ae;have d:=a.len ae ae;exact⟨by simp[jh],by simp[jh],by simp only[jh];omega,by simp[jh],d⟩
def Qf{p:Pc}{t:Tx}(h:Ij p t){s:List Pr}(a:lS s):rP (xU p t s):=by
 unfold xU;split
 .exact R8 a.g h.bo (CT _ _ _ Sn h.vs)
 .exact A9
noncomputable def eA (a:List Pc) (t:Tx) (s:List Pr):Ef:=match mo a t with
 |some p=>xU p t s
 |none=>oE
def eE(s:List Pr)(e:Ef):List Pr:=if e.st=1/\(iJ s&&gW e.writes)=true then dj s e.writes else s
structure zX(procs:List Pc)(t:Tx):Prop where
 len:procs.length<=1048576
 run:∀p∈procs,Ij p t
def CI{a:List Pc}{t:Tx}{p:Pc}(h:mo a t=some p):p∈a:=by
 unfold mo at h;split at h
 .rename_i q e;split at h
  .cases h;exact List.mem_of_find?_eq_some e
  .cases h
 .cases h
def lr{a:List Pc}{t:Tx}(h:zX a t){s:List Pr}(b:lS s):rP (eA a t s):=by
 unfold eA;cases e:mo a t with
 |none=>exact A9
 |some p=>exact Qf (h.run p (CI e)) b
def wQ(l:List Pr)(b:Bool)(h:l.length<=1099511627776):PS tb 36 [.slice b (aT l)] (.slice false (aT l)):=by
 refine⟨0,?_⟩;have a:tb.A 36=none:=rfl;have c:l.length*48<=an:=by simp only[an];omega
 have d:l.length<=an:=by simp only[an];omega
 have e:tb.X=outside:=rfl;simp only[dQ,a,e];simp[outside,aK.or,oz,tL,pb,bh,c,d]
def xO{a:List Pc}{t:Tx}(h:zX a t){s:List Pr}(k:lS s)(b c:Bool):PS tb 18 [.slice b (eL a),.slice c (aT s),.agg (nM t)] (.tuple [.slice false (aT (eE s (eA a t s))),.agg (iP (eA a t s))]):=by
 have f:=P4 a b t h.len λp i=>(h.run p i).ar
 have o:=wQ s c k.len;have j:=lr h k;refine bD (af:=Y3) rfl rfl ?_;unfold Y3;dsimp only[List.map,aI,ai,nM];dsimp only[nM]at f;unfold eA at j⊢;cases e:mo a t with
 |none=>
  rw[e]at f;have g:eE s oE=s:=by simp[eE]
  rw[g];refine gP trivial (bA f o) (k1 ?_);all_goals rfl
 |some p=>
  rw[e]at f j;have l:=Ue (h.run p (CI e)) k c;simp only at j⊢;generalize xU p t s=d at l j⊢;dsimp only[eV,jZ,iP]at f l;have r:P9 d.writes:=λq u=>(j.wv q u).2.2
  have i:=Ad s d.writes c d.fw k.len k.sz (by have:=j.wl;omega) r;by_cases m:d.st=1
  .by_cases n:(iJ s&&gW d.writes)=true
   .rw[aq n]at i;have g:eE s d=dj s d.writes:=by simp only[eE];rw[aq ⟨m,n⟩]
    rw[g];refine gP (bU m) (dS f l i) (k1 ?_)
    all_goals rfl
   .rw[ak n]at i;have g:eE s d=s:=by simp only[eE];rw[ak λh=>n h.2]
    rw[g];refine gP (bU m) (fW f l i o) (k1 ?_);all_goals rfl
  .have g:eE s d=s:=by simp only[eE];rw[ak λh=>m h.1]
   rw[g];refine gP m (dS f l o) (k1 ?_);all_goals rfl
end
section
open Go Go.Dv
def Rs.ms{a:Type}:Rs a->MS
 | .ok _ m=>m
 | .no _ _ _ m=>m
def Cz.w(c:Cz)(g:ByteArray->dY):Cz:={c with g:=g}
def ZR(c:Cz)(m:MS):Prop:=c.all=false->(∀k∈m.reads,k∈c.rd)/\(∀k∈m.dm,k∈c.wr)
structure Gd{α:Type}(F:Cz->MS->Rs α):Prop where
 mono:∀c m k,k∈m.reads->k∈(F c m).ms.reads
 fr:∀c m g',(∀k∈(F c m).ms.reads,g' k=c.g k)->F (c.w g') m=F c m
 inv:∀c m,ZR c m->ZR c (F c m).ms
def Gd.bind{α β:Type}{F:Cz->MS->Rs α}{H:α->Cz->MS->Rs β}(hF:Gd F)(hH:∀a,Gd (H a)):Gd (λc m=>(F c m).bind λa m=>H a c m) where
 mono c m k hk:=by
  have h1:=hF.mono c m k hk;cases e:F c m with
  |ok a m'=>rw[e]at h1;exact(hH a).mono c m' k h1
  |no st cd key m'=>rw[e]at h1;exact h1
 fr c m g' h:=by
  cases e:F c m with
  |ok a m'=>
   simp only[e,Rs.bind]at h⊢;have h1:F (c.w g') m=F c m:=hF.fr c m g' λk hk=>h k (by rw[e]at hk;exact(hH a).mono c m' k hk)
   rw[h1,e];exact(hH a).fr c m' g' h
  |no st cd key m'=>
   simp only[e,Rs.bind]at h⊢;have h1:F (c.w g') m=F c m:=hF.fr c m g' λk hk=>h k (by rw[e]at hk;exact hk)
   rw[h1,e]
 inv c m h:=by
  have h1:=hF.inv c m h;cases e:F c m with
  |ok a m'=>rw[e]at h1;exact(hH a).inv c m' h1
  |no st cd key m'=>rw[e]at h1;exact h1
def Gd.plain{α:Type}{f:MS->Rs α}(h:∀m,(f m).ms.reads=m.reads/\(f m).ms.dm=m.dm):Gd (λ_ m=>f m) where
 mono c m k hk:=by rw[(h m).1];exact hk
 fr c m g' _:=rfl
 inv c m hi:=λha=>by rw[(h m).1,(h m).2];exact hi ha
def Gd.ite{b:Type}{p:Prop}[Decidable p]{F H:Cz->MS->Rs b}(d:Gd F)(e:Gd H):Gd (λc m=>if p then F c m else H c m):=by
 by_cases a:p
 .simpa only[a,cQ]using d
 .simpa only[a,cK]using e
def Gd.ok{b:Type}(a:b):Gd (λ_ m=>Rs.ok a m):=.plain λ_=>⟨rfl,rfl⟩
def Gd.abort{a:Type}(b:Int):Gd (λ_ m=>(b9 b m:Rs a)):=.plain λ_=>⟨rfl,rfl⟩
def Gd.set(k:ByteArray)(v:dY):Gd (λ_ m=>Rs.ok () (lY k v m)):=.plain λ_=>⟨rfl,rfl⟩
def Gd.WI(x:An):Gd (λ_ m=>lM x m):=by
 cases x with
 |ok v=>exact .ok v
 |error e=>exact .abort e
def Gd.tick:Gd (λ_ m=>lN m):=.plain λm=>by unfold lN;split<;>exact⟨rfl,rfl⟩
def Gd.emit(v:dY):Gd (λ_ m=>s9 v m):=.plain λm=>by unfold s9;split<;>exact⟨rfl,rfl⟩
def Gd.X2(key:ByteArray):Gd (λc m=>iG c key m) where
 mono c m k hk:=by
  unfold iG;split
  .cases m.own key with
   |some v=>exact hk
   |none=>
    simp only;split
    .exact hk
    .exact uU.2 (.inr hk)
  .exact hk
 fr c m g' h:=by
  unfold iG at h⊢;split at h
  .rename_i hv;simp only[hv,cQ];cases e:m.own key with
   |some v=>rfl
   |none=>
    simp only[e,Cz.w]at h⊢;split at h
    .rename_i hc;simp only[hc,cQ]
    .rename_i hc;simp only[hc];rw[ak (by decide),ak (by decide),h key (uU.2 (.inl rfl))]
  .rename_i hv;rw[ak hv,ak hv]
 inv c m hi:=by
  unfold iG;split
  .cases m.own key with
   |some v=>exact hi
   |none=>
    simp only;split
    .exact hi
    .rename_i hc;intro ha;refine⟨λk hk=>?_,(hi ha).2⟩;rcases uU.1 hk with rfl|hk
     .simp only[ha,Bool.not_false,Bool.true_and,kD,M7]at hc;exact ej.1 hc
     .exact(hi ha).1 k hk
  .exact hi
def Gd.store(key:ByteArray)(v:dY):Gd (λc m=>iA c key v m) where
 mono c m k hk:=by
  unfold iA;split
  .split<;>exact hk
  .exact hk
 fr c m g' h:=rfl
 inv c m hi:=by
  unfold iA;split
  .split
   .exact hi
   .rename_i hc;intro ha;refine⟨(hi ha).1,λk hk=>?_⟩;rcases uU.1 hk with rfl|hk
    .simp only[ha,Bool.not_false,Bool.true_and,kD,M7]at hc;exact ej.1 hc
    .exact(hi ha).2 k hk
  .exact hi
def Gd.un(b:Int)(a:dY):Gd (λc m=>lA c b a m):=by
 unfold lA;refine .ite (.ite (.WI _) (.abort _)) (.ite (.ite (.ok _) (.abort _)) (.ite (.ite (.WI _) (.abort _)) (.ite (.ite (.ok _) (.abort _)) (.ite ?_ (.abort _)))));exact(Gd.X2 a.s).bind λv=>.WI _
def Gd.op(a:Int)(l:List dY):Gd (λc m=>AO c a l m):=by
 unfold AO;split
 .exact .un _ _
 .exact .WI _
 .exact .abort _
mutual
theorem lF(e:bj):Gd (λc m=>eO c e m):=by
 cases e with
 |mk a n s f b=>
  simp only[eO];refine .ite (.ok _) (.ite (.ok _) (.ite ?_ ?_))
  .refine .plain λm=>?_
   cases m.vars s<;>exact⟨rfl,rfl⟩
  .exact(Cy b).bind λl=>.op a l
theorem Cy(l:List bj):Gd (λc m=>jc c l m):=by
 cases l with
 |nil=>simp only[jc];exact .ok _
 |cons e r=>
  simp only[jc];exact(lF e).bind λv=>(Cy r).bind λl=>.ok _
end
def Gd.loop{f:Cz->Int->MS->Rs Unit}(a:∀i,Gd (λc m=>f c i m)):∀(n:Nat) (i:Int),Gd (λc m=>pV (f c) n i m)
 |0,i=>.ok _
 |n+1,i=>by
  simp only[pV];exact(a i).bind λ_=>Gd.loop a n (i+1)
mutual
theorem UJ(s:cl):Gd (λc m=>cC c s m):=by
 cases s with
 |mk h name max a b f d g e=>
  simp only[cC];refine .ite ((lF a).bind λv=>.set _ _) (.ite ?_ (.ite ?_ (.ite ?_ (.ite ?_ (.ite ?_ (.ite (.abort _) (.ok _)))))))
  .exact(lF a).bind λk=>(lF b).bind λv=>.ite (.store _ _) (.abort _)
  .exact(lF a).bind λk=>.ite (.store _ _) (.abort _)
  .exact(lF a).bind λx=>.ite (.ite (nQ d) (nQ e)) (.abort _)
  .refine(lF a).bind λx=>(lF b).bind λy=>.ite (.ite (.abort _) ?_) (.abort _)
   refine Gd.loop (f:=λc i m=>(lN m).bind λ_ m=>cJ c d (lY name (j1 i) m)) (λi=>?_) _ _;exact Gd.tick.bind λ_=>(Gd.set name (j1 i)).bind (H:=λ_ c m=>cJ c d m) λ_=>nQ d
  .exact(lF a).bind λv=>.ite (.emit _) (.abort _)
theorem nQ(l:List cl):Gd (λc m=>cJ c l m):=by
 cases l with
 |nil=>simp only[cJ];exact .ok _
 |cons s r=>
  simp only[cJ];exact Gd.tick.bind λ_=>(UJ s).bind λ_=>nQ r
end
def yE(r:Rs Unit):(jh r).reads=r.ms.reads:=by cases r<;>rfl
def EZ(r:Rs Unit):∀p∈(jh r).writes,p.key∈r.ms.dm:=by
 cases r with
 |ok a m=>
  intro p b;simp only[jh,List.mem_map]at b;obtain⟨k,d,rfl⟩:=b;exact d
 |no e c k m=>intro p b;simp[jh]at b
def GX(l:List cl)(c:Cz)(m:MS)(a:ByteArray->dY)(h:∀k∈(jh (cJ c l m)).reads,a k=c.g k):jh (cJ (c.w a) l m)=jh (cJ c l m):=by
 rw[(nQ l).fr c m a (by rw[yE]at h;exact h)]
def F7(l:List cl)(c:Cz)(m:MS)(h:ZR c m)(b:c.all=false):(∀k∈(jh (cJ c l m)).reads,k∈c.rd)/\(∀p∈(jh (cJ c l m)).writes,p.key∈c.wr):=by
 have a:=(nQ l).inv c m h b;rw[yE];exact⟨a.1,λp d=>a.2 _ (EZ _ p d)⟩
end
section
open Go Go.Dv
def Nv(l:List Pr)(j:Nat):(l.map (·.key)).getD j E=(l.getD j P0).key:=by
 simp only[List.getD_eq_getElem?_getD,List.getElem?_map];cases l[j]?<;>rfl
def C6{l:List Pr}:gW l=true↔AI l:=by
 have e:gW l=true↔tw (l.map (·.key))=true/\∀p∈l,qc p.v=true:=by
  simp only[gW,tw,List.all_eq_true,List.mem_range,Li,qq,aL,List.length_map,Nv];constructor
  .intro h;refine⟨λj a=>⟨(h j a).1,(h j a).2.2⟩,λp b=>?_⟩;obtain⟨j,a,rfl⟩:=List.mem_iff_getElem.1 b;have:=(h j a).2.1
   rwa [vC l j a]at this
  .intro h j a;refine⟨(h.1 j a).1,?_,(h.1 j a).2⟩;rw[vC l j a];exact h.2 _ (List.getElem_mem a)
 rw[e,nT];unfold AI kM eY;rw[List.pairwise_map];constructor
 .rintro⟨⟨c,d⟩,f⟩;exact⟨λp b=>⟨c _ (List.mem_map.2 ⟨p,b,rfl⟩),f p b⟩,d⟩
 .rintro⟨c,d⟩;refine⟨⟨λx g=>?_,d⟩,λp b=>(c p b).2⟩;obtain⟨p,b,rfl⟩:=List.mem_map.1 g;exact(c p b).1
def vk{l:List Pr}:iJ l=true↔Bw l:=by
 unfold iJ Bw;rw[aL,C6];simp[List.any_eq_false]
def AR:∀(a:List Pm) (b:List dY) (m:MS),(jU a b m).reads=m.reads/\(jU a b m).dm=m.dm
 |[],_,_=>by simp[jU]
 |_::_,[],_=>by simp[jU]
 |p::a,v::b,m=>by
  rw[jU];exact AR a b _
abbrev Tx0:Tx:=⟨0,E,true,[],⟨false,true,[],true,[]⟩,0⟩
section
variable(procs:List Pc)(l:List Tx)
abbrev ec(i:Nat):Tx:=l.getD i Tx0
noncomputable def Gh (i:Nat) (g:Gf):Ef:=match mo procs (ec l i)with
 |some p=>if I2 p=0/\vJ p (ec l i).fa (ec l i).args=0/\dk (ec l i).dx=true then jh (cJ (Je g (ec l i).dx) p.body (jU p.ps (ec l i).args B0))else oE
 |none=>oE
def rM(i:Nat){s:List Pr}(h:iJ s=true):eA procs (ec l i) s=Gh procs l i (cD s):=by
 unfold eA Gh xU;cases mo procs (ec l i)with
 |none=>rfl
 |some p=>simp only[h,true_and]
noncomputable def qz:AB gW where
 run:=Gh procs l
 all i:=!dk (ec l i).dx||(ec l i).dx.all
 rd i:=(ec l i).dx.r
 wr i:=(ec l i).dx.w
 fr i g g' h:=by
  unfold Gh at h⊢;cases e:mo procs (ec l i)with
  |none=>rfl
  |some p=>
   rw[e]at h;simp only at h⊢;split
   .rename_i hc;rw[aq hc]at h;exact GX p.body (Je g (ec l i).dx) _ g' h
   .rfl
 rs i g ha k hk:=by
  unfold Gh at hk;cases e:mo procs (ec l i)with
  |none=>rw[e]at hk;simp at hk
  |some p=>
   rw[e]at hk;simp only at hk;split at hk
   .have hr:=AR p.ps (ec l i).args B0;refine(F7 p.body (Je g (ec l i).dx) _ (λ_=>?_) ?_).1 k hk
    .rw[hr.1,hr.2];exact⟨az,az⟩
    .simp only[AS]at ha;exact ha.2
   .simp at hk
 ws i g k ha hk:=by
  obtain⟨_,_,q,hq,rfl⟩:=hk;unfold Gh at hq;cases e:mo procs (ec l i)with
  |none=>rw[e]at hq;simp at hq
  |some p=>
   rw[e]at hq;simp only at hq;split at hq
   .have hr:=AR p.ps (ec l i).args B0;refine(F7 p.body (Je g (ec l i).dx) _ (λ_=>?_) ?_).2 q hq
    .rw[hr.1,hr.2];exact⟨az,az⟩
    .simp only[AS]at ha;exact ha.2
   .simp at hq
def Ee{s:List Pr}(h:iJ s=true)(e:Ef):iJ (eE s e)=true/\cD (eE s e)=tz gW e (cD s):=by
 unfold eE tz;rw[h,Bool.true_and];split
 .rename_i c;have a:=C6.1 c.2;have b:=vk.1 h;exact⟨vk.2 (Me b a),funext λk=>oN b.1.2 a k⟩
 .exact⟨h,rfl⟩
noncomputable def dt (s:List Pr):Nat->List Pr
 |0=>s
 |n+1=>eE (dt s n) (eA procs (ec l n) (dt s n))
noncomputable def bH (s:List Pr) (i:Nat):Ef:=eA procs (ec l i) (dt procs l s i)
def Ch{s:List Pr}(h:iJ s=true):∀n,iJ (dt procs l s n)=true/\cD (dt procs l s n)=(qz procs l).st (cD s) n
 |0=>⟨h,rfl⟩
 |n+1=>by
  obtain⟨a,b⟩:=Ch h n;obtain⟨c,d⟩:=Ee a (eA procs (ec l n) (dt procs l s n));refine⟨c,?_⟩
  show cD (eE _ _)=_
  rw[d,rM procs l n a,b];rfl
def uv{s:List Pr}(h:iJ s=true)(i:Nat):bH procs l s i=(qz procs l).ef (cD s) i:=by
 unfold bH;rw[rM procs l i (Ch procs l h i).1,(Ch procs l h i).2];rfl
def RF{s q:List Pr}(h:iJ s=true)(a:iJ q=true){n:Nat}(e:cD q=(qz procs l).st (cD s) n):q=dt procs l s n:=by
 obtain⟨b,c⟩:=Ch procs l h n;exact PR (vk.1 a) (vk.1 b) λk=>by rw[e,c]
def rB{s:List Pr}(h:iJ s=false)(t:Tx):eA procs t s=oE:=by
 unfold eA xU;cases mo procs t with
 |none=>rfl
 |some p=>simp[h]
def uG{s:List Pr}(h:iJ s=false):∀n,dt procs l s n=s
 |0=>rfl
 |n+1=>by
  rw[dt,uG h n,rB procs h];simp[eE]
end
end
section
open Go Go.Dv
def BA(e:Ef)(k:ByteArray):Bool:=decide (e.st=1)&&e.writes.any λp=>decide (p.key=k)
def KM(e:Ef)(k:ByteArray)(h:rP e):PS tb 53 [.agg (iP e),.str k] (.bool (BA e k)):=by
 have t:=h.wl;refine bD (af:=a53) rfl rfl ?_;unfold a53;dsimp only[List.map,aI,ai,iP];unfold BA;by_cases a:e.st=1
 case neg=>
  exact gN a k0;all_goals simp[a]
 refine gN (bA (bU a) @bh) (k1 ?_);refine bL (λj m=>∃(i q:Nat),i+j=e.writes.length/\(∀j,(h:j<i)->(u:j<e.writes.length)->e.writes[j].key≠k)/\m=⟨[(1,.p (.str k)),(12,.p (.slice e.fw (aT e.writes))),(13,.p (.int .i64 e.writes.length)),(14,.p (.int .i64 i))],[],q,[0]⟩) ?_ e.writes.length _ ⟨0,_,ae,λj h=>ae,rfl⟩;rintro j m ⟨i,q,v,n,rfl⟩;refine aH Oz.eq_1 ?_;rcases bS i e.writes.length with c|c
 .have b:(i:Int)<e.writes.length:=ae;have o:(0:Int)<=i:=ae;have r:=kc e.writes i c;by_cases d:e.writes[i].key=k
  .have f:(e.writes.any λp=>decide (p.key=k))=true:=List.any_eq_true.2 ⟨_,List.getElem_mem c,by simpa using d⟩;refine gN (dP b o r @bh (bU d)) (k1 ?_);all_goals simp[a,f]
  .refine gN (dP b o r @bh d) (k1 ?_);refine LI.next (m':=j-1) ae ⟨i+1,_,ae,λj g l=>?_,rfl⟩;rcases C3.1 g with h|rfl
   .exact n j h l
   .exact d
 .have b:¬(i:Int)<e.writes.length:=ae;have f:(e.writes.any λp=>decide (p.key=k))=false:=by
   rw[List.any_eq_false];intro p s;obtain⟨j,g,rfl⟩:=List.mem_iff_getElem.1 s;simpa using n j ae g
  refine gN b (k1 ?_);all_goals simp[f]
def uM(e:Ef)(l:List Ef):Bool:=e.reads.all λk=>l.all λx=>!BA x k
def I1(l:List Ef)(i:Nat)(h:i<l.length):(bu l)[i]?=some [.int .i64 l[i].st,.int .i64 l[i].code,.slice l[i].fo (cy l[i].out),.slice l[i].fr (aF l[i].reads),.slice l[i].fp (aF l[i].dm),.slice l[i].fw (aT l[i].writes),.str l[i].OQ,.int .i64 l[i].steps]:=sC l i h
def Ma(e:Ef)(l:List Ef)(b:Bool)(B:rP e)(F:l.length<=1048576)(h:∀x∈l,rP x):PS tb 29 [.agg (iP e),.slice b (bu l)] (.bool (uM e l)):=by
 have C:=B.rl;refine bD (af:=ZB) rfl rfl ?_;unfold ZB;dsimp only[List.map,aI,ai,iP];refine gN @au (k1 ?_);refine bL (λj f=>∃(i q:Nat),i+j=e.reads.length/\(∀j,(h:j<i)->(G:j<e.reads.length)->(l.all λx=>!BA x e.reads[j])=true)/\f=⟨[(1,.p (.slice b (bu l))),(10,.p (.slice e.fr (aF e.reads))),(11,.p (.int .i64 e.reads.length)),(12,.p (.int .i64 i))],[],q,[0]⟩) ?_ e.reads.length _ ⟨0,_,ae,λj h=>ae,rfl⟩;rintro j f ⟨i,q,H,w,rfl⟩;refine aH NY.eq_1 ?_;rcases bS i e.reads.length with c|c
 .have p:(i:Int)<e.reads.length:=ae;have D:(0:Int)<=i:=ae;have E:=dN e.reads i c;refine gN (dP p D E @au @cu) (k1 ?_);refine bL (λm f=>∃(k q:Nat),k+m=l.length/\(∀x∈l.take k,BA x e.reads[i]=false)/\f=⟨[(1,.p (.slice b (bu l))),(6,.p (.str e.reads[i])),(10,.p (.slice e.fr (aF e.reads))),(11,.p (.int .i64 e.reads.length)),(12,.p (.int .i64 i)),(16,.p (.slice b (bu l))),(17,.p (.int .i64 l.length)),(18,.p (.int .i64 k))],[],q,[0]⟩) ?_ l.length _ ⟨0,_,ae,az,rfl⟩;rintro m f ⟨k,q,y,r,rfl⟩;refine aH N7.eq_1 ?_;rcases bS k l.length with d|d
  .have n:(k:Int)<l.length:=ae;have z:(0:Int)<=k:=ae;have A:=I1 l k d;have g:=KM l[k] e.reads[i] (h _ (List.getElem_mem d));dsimp only[iP]at g;cases o:BA l[k] e.reads[i]with
   |true=>
    rw[o]at g;have s:uM e l=false:=by
     unfold uM;rw[List.all_eq_false];exact⟨_,List.getElem_mem c,by
      rw[CN,List.all_eq_false];exact⟨_,List.getElem_mem d,by simp[o]⟩⟩
    refine gP (fW n z A @cu) g (k1 ?_);all_goals rw[s]
   |false=>
    rw[o]at g;refine gP (fW n z A @cu) g (k1 ?_);refine LI.next (m':=m-1) ae ⟨k+1,_,ae,?_,rfl⟩;intro x a;rw[List.take_succ_eq_append_getElem d,List.mem_append,List.mem_singleton]at a;rcases a with a|rfl
    .exact r x a
    .exact o
  .have n:¬(k:Int)<l.length:=ae;rw[List.take_of_length_le d]at r;refine gN n (k1 ?_);refine LI.next (m':=j-1) ae ⟨i+1,_,ae,λj t u=>?_,rfl⟩;rcases C3.1 t with v|rfl
   .exact w j v u
   .exact List.all_eq_true.2 λx a=>by simp[r x a]
 .have p:¬(i:Int)<e.reads.length:=ae;have s:uM e l=true:=by
   unfold uM;rw[List.all_eq_true];intro k y;obtain⟨j,t,rfl⟩:=List.mem_iff_getElem.1 y;exact w j ae t
  refine gN p (k1 ?_);all_goals rw[s]
end
end Go.Dv.Tryz
