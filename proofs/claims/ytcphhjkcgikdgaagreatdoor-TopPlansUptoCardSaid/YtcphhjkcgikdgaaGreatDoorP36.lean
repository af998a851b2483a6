/- Lemmas for the law of this claim. -/
import Derived.Test.YtcphhjkcgikdgaaGreatDoorP35
import Derived.Test.YtcphhjkcgikdgaaGreatDoorP33
import Derived.Test.YtcphhjkcgikdgaaGreatDoorP29
import Derived.Test.YtcphhjkcgikdgaaGreatDoorP31
set_option linter.all false
set_option maxRecDepth 100000
set_option maxHeartbeats 8000000
namespace Go.Dv.Tryz
section
open Go Go.Dv
def Y6(p:List DV)(b:aX):Prop:=∀(L:Heap) (a:Nat) (s:Sg),sq 5 L a->∃r:Int×Sg,BS tb 202 [.ptr 4 0,.agg b.d] (L++Hc p s) a (.p (.int .i64 r.1)) (L++Hc p r.2) a
def Ud(p:List DV)(f:Bool)(l:List aX):Prop:=∀(L:Heap) (a:Nat) (s:Sg),sq 5 L a->∃r:Int×Sg,BS tb 166 [.ptr 4 0,.p (.slice f (bD l))] (L++Hc p s) a (.p (.int .i64 r.1)) (L++Hc p r.2) a
section
variable{p:List DV}(hp:p.all (below 1 dep)=true)
include hp in
theorem Xc(e:Int)(name:ByteArray)(max:Int)(a b:aF)(f:Bool)(c:List aX)(A:Bool)(m:List aX)(D:a.sz<=1048576)(E:b.sz<=1048576)(F:nd e max a b)(i:Ud p f c)(v:Ud p A m):Y6 p (.mk e name max a b f c A m):=by
 intro L S s h;have g:=h.cg hp;have q:=h.cons (k:=.var false (bA e name max a b f c A m));obtain⟨⟨O,P,Q⟩,d⟩:=GV hp q s e name max a b f c A m D E F;dsimp only at d;simp only[bA]at d;refine BE (af:=U4) rfl (λr:Int×Sg=>.p (.int .i64 r.1)) (λr=>L++Hc p r.2) rfl ?_;unfold U4;dsimp only[aj,aX.d,bA];by_cases ce:Q=0
 case neg=>
  refine gR (Cj g.n0<|Cj g.b0<|Cj g.l0<|Cj g.b1<|Cj g.l1<|Cj g.g1<|Cj g.g2<|Cj g.g3<|Cj g.g4<|Cj g.s1<|Cj g.s2<|Cj g.s3<|Cj g.w1<|Cj g.w2<|Cj g.w3<|Cj g.w4<|Cj g.lt<|Cj @eM<|Cj @dU<|Cj @ed<|ce) trivial d (k1 ?_);all_goals first
   |contradiction
   |exact⟨(_,_),rfl,rfl⟩
 by_cases j:e=1
 .have w:=ue hp q s name O;simp only[bA]at w;refine gR (Cj g.n0<|Cj g.b0<|Cj g.l0<|Cj g.b1<|Cj g.l1<|Cj g.g1<|Cj g.g2<|Cj g.g3<|Cj g.g4<|Cj g.s1<|Cj g.s2<|Cj g.s3<|Cj g.w1<|Cj g.w2<|Cj g.w3<|Cj g.w4<|Cj g.lt<|Cj @eM<|Cj @dU<|Cj @ed<|Cj (aZ ce)<|(aZ j)) trivial (bf d w) (k1 ?_);all_goals first
   |contradiction
   |exact⟨(_,_),rfl,rfl⟩
 by_cases n:e=2
 .cases J:s.v name with
  |none=>
   have B:mZ s.v name=none:=by simp[mZ,J]
   refine gR (Cj g.n0<|Cj g.b0<|Cj g.l0<|Cj g.b1<|Cj g.l1<|Cj g.g1<|Cj g.g2<|Cj g.g3<|Cj g.g4<|Cj g.s1<|Cj g.s2<|Cj g.s3<|Cj g.w1<|Cj g.w2<|Cj g.w3<|Cj g.w4<|Cj g.lt<|Cj @eM<|Cj @dU<|Cj @ed<|Cj (aZ ce)<|Cj j<|Cj (aZ n)<|B) trivial d (k1 ?_);all_goals first
    |contradiction
    |exact⟨(_,_),rfl,rfl⟩
  |some z=>
   have B:mZ s.v name=some (.one (.int .i64 z)):=by simp[mZ,J]
   cases K:s.l name with
   |none=>
    have G:ts s.l name=none:=by simp[ts,K]
    refine hR (Cj g.n0<|Cj g.b0<|Cj g.l0<|Cj g.b1<|Cj g.l1<|Cj g.g1<|Cj g.g2<|Cj g.g3<|Cj g.g4<|Cj g.s1<|Cj g.s2<|Cj g.s3<|Cj g.w1<|Cj g.w2<|Cj g.w3<|Cj g.w4<|Cj g.lt<|Cj @eM<|Cj @dU<|Cj @ed<|Cj (aZ ce)<|Cj j<|Cj (aZ n)<|Cj B<|G) trivial d (k2 ?_ ?_)<;>(repeat with_reducible intro t)
    all_goals first
     |contradiction
     |exact⟨(_,_),rfl,rfl⟩
   |some y=>
    have G:ts s.l name=some (.one (.bool y)):=by simp[ts,K]
    refine hR (Cj g.n0<|Cj g.b0<|Cj g.l0<|Cj g.b1<|Cj g.l1<|Cj g.g1<|Cj g.g2<|Cj g.g3<|Cj g.g4<|Cj g.s1<|Cj g.s2<|Cj g.s3<|Cj g.w1<|Cj g.w2<|Cj g.w3<|Cj g.w4<|Cj g.lt<|Cj @eM<|Cj @dU<|Cj @ed<|Cj (aZ ce)<|Cj j<|Cj (aZ n)<|Cj B<|G) trivial d (k3 ?_ ?_ ?_)<;>(repeat with_reducible intro t)
    all_goals first
     |contradiction
     |exact⟨(_,_),rfl,rfl⟩
 by_cases u:e=3
 .refine hR (Cj g.n0<|Cj g.b0<|Cj g.l0<|Cj g.b1<|Cj g.l1<|Cj g.g1<|Cj g.g2<|Cj g.g3<|Cj g.g4<|Cj g.s1<|Cj g.s2<|Cj g.s3<|Cj g.w1<|Cj g.w2<|Cj g.w3<|Cj g.w4<|Cj g.lt<|Cj @eM<|Cj @dU<|Cj @ed<|Cj (aZ ce)<|Cj j<|Cj n<|(aZ u)) trivial d (k3 ?_ ?_ ?_)<;>(repeat with_reducible intro t)
  all_goals first
   |contradiction
   |exact⟨(_,_),rfl,rfl⟩
 by_cases x:e=4
 .refine hR (Cj g.n0<|Cj g.b0<|Cj g.l0<|Cj g.b1<|Cj g.l1<|Cj g.g1<|Cj g.g2<|Cj g.g3<|Cj g.g4<|Cj g.s1<|Cj g.s2<|Cj g.s3<|Cj g.w1<|Cj g.w2<|Cj g.w3<|Cj g.w4<|Cj g.lt<|Cj @eM<|Cj @dU<|Cj @ed<|Cj (aZ ce)<|Cj j<|Cj n<|Cj u<|(aZ x)) trivial d (k2 ?_ ?_)<;>(repeat with_reducible intro t)
  all_goals first
   |contradiction
   |exact⟨(_,_),rfl,rfl⟩
 by_cases C:e=7
 .refine hR (Cj g.n0<|Cj g.b0<|Cj g.l0<|Cj g.b1<|Cj g.l1<|Cj g.g1<|Cj g.g2<|Cj g.g3<|Cj g.g4<|Cj g.s1<|Cj g.s2<|Cj g.s3<|Cj g.w1<|Cj g.w2<|Cj g.w3<|Cj g.w4<|Cj g.lt<|Cj @eM<|Cj @dU<|Cj @ed<|Cj (aZ ce)<|Cj j<|Cj n<|Cj u<|Cj x<|(aZ C)) trivial d (k2 ?_ ?_)<;>(repeat with_reducible intro t)
  all_goals first
   |contradiction
   |exact⟨(_,_),rfl,rfl⟩
 by_cases H:e=5
 .obtain⟨⟨R,M⟩,o⟩:=i _ _ s q;dsimp only at o;simp only[bA]at o;obtain⟨⟨T,U⟩,I⟩:=v _ _ M q;dsimp only at I;simp only[bA]at I;refine hR (Cj g.n0<|Cj g.b0<|Cj g.l0<|Cj g.b1<|Cj g.l1<|Cj g.g1<|Cj g.g2<|Cj g.g3<|Cj g.g4<|Cj g.s1<|Cj g.s2<|Cj g.s3<|Cj g.w1<|Cj g.w2<|Cj g.w3<|Cj g.w4<|Cj g.lt<|Cj @eM<|Cj @dU<|Cj @ed<|Cj (aZ ce)<|Cj j<|Cj n<|Cj u<|Cj x<|Cj C<|(aZ H)) trivial (c9 d o I) (k3 ?_ ?_ ?_)<;>(repeat with_reducible intro t)
  all_goals first
   |contradiction
   |exact⟨(_,_),rfl,rfl⟩
 by_cases N:e=6
 .have w:=ue hp q s name 1;simp only[bA]at w;obtain⟨⟨R,M⟩,o⟩:=i _ _ {Fq s name 1 with nl:=if(ts (Fq s name 1).l name).isSome then(Fq s name 1).nl else(Fq s name 1).nl+1,l:=UD (Fq s name 1).l name true} q;dsimp only at o;simp only[bA]at o;refine hR (Cj g.n0<|Cj g.b0<|Cj g.l0<|Cj g.b1<|Cj g.l1<|Cj g.g1<|Cj g.g2<|Cj g.g3<|Cj g.g4<|Cj g.s1<|Cj g.s2<|Cj g.s3<|Cj g.w1<|Cj g.w2<|Cj g.w3<|Cj g.w4<|Cj g.lt<|Cj @eM<|Cj @dU<|Cj @ed<|Cj (aZ ce)<|Cj j<|Cj n<|Cj u<|Cj x<|Cj C<|Cj H<|(aZ N)) trivial (c9 d w o) (k3 ?_ ?_ ?_)<;>(repeat with_reducible intro t)
  all_goals first
   |contradiction
   |exact⟨(_,_),rfl,rfl⟩
 .refine gR (Cj g.n0<|Cj g.b0<|Cj g.l0<|Cj g.b1<|Cj g.l1<|Cj g.g1<|Cj g.g2<|Cj g.g3<|Cj g.g4<|Cj g.s1<|Cj g.s2<|Cj g.s3<|Cj g.w1<|Cj g.w2<|Cj g.w3<|Cj g.w4<|Cj g.lt<|Cj @eM<|Cj @dU<|Cj @ed<|Cj (aZ ce)<|Cj j<|Cj n<|Cj u<|Cj x<|Cj C<|Cj H<|N) trivial d (k1 ?_);all_goals first
   |contradiction
   |exact⟨(_,_),rfl,rfl⟩
end
end
section
open Go Go.Dv
def rr:∀{l:List aX},oo l->∀s∈l,EO s
 |[],_,s,h=>by simp at h
 |x::r,a,s,h=>by
  rw[oo]at a;rcases List.mem_cons.1 h with rfl|h
  .exact a.1
  .exact rr a.2 s h
section
variable{p:List DV}(hp:p.all (below 1 dep)=true)
include hp in
theorem yM(f:Bool)(l:List aX)(y:l.length<=1048576)(E:∀s∈l,Y6 p s):Ud p f l:=by
 intro L n s h;have g:=h.cg hp;refine BE (af:=QT) rfl (λr:Int×Sg=>.p (.int .i64 r.1)) (λr=>L++Hc p r.2) rfl ?_;unfold QT;dsimp only[aj];refine gN (Cj g.n0<|Cj g.b0<|Cj g.l0<|Cj g.b1<|Cj g.l1<|Cj g.g1<|Cj g.g2<|Cj g.g3<|Cj g.g4<|Cj g.s1<|Cj g.s2<|Cj g.s3<|Cj g.w1<|Cj g.w2<|Cj g.w3<|Cj g.w4<|Cj g.lt<|Cj @eM<|Cj @dU<|Cj @ed<|@aU) (k1 ?_);refine bU (λj t=>∃(i:Nat) (o:Sg),i+j=l.length/\t=⟨[(0,.ptr 4 0),(1,.p (.slice f (bD l))),(10,.p (.slice f (bD l))),(11,.p (.int .i64 l.length)),(12,.p (.int .i64 i))],L++Hc p o,n,[n,n]⟩) ?_ l.length _ ⟨0,s,ae,rfl⟩;rintro j t ⟨i,o,F,rfl⟩;refine bq Lc.eq_1 ?_;rcases cK i l.length with c|c
 .have d:(i:Int)<l.length:=ae;have u:(0:Int)<=i:=ae;have e:=kG l i c;have z:=E l[i] (List.getElem_mem c);generalize l[i]=q at e z;obtain⟨x,name,max,a,b,A,m,B,v⟩:=q;simp only[aX.cs]at e;have G:=h.cons (k:=.var false (bA x name max a b A m B v));obtain⟨⟨r,H⟩,w⟩:=z _ _ o G;dsimp only at w;simp only[aX.d,bA]at w;by_cases C:r=0
  .refine gR (Cj g.n0<|Cj g.b0<|Cj g.l0<|Cj g.b1<|Cj g.l1<|Cj g.g1<|Cj g.g2<|Cj g.g3<|Cj g.g4<|Cj g.s1<|Cj g.s2<|Cj g.s3<|Cj g.w1<|Cj g.w2<|Cj g.w3<|Cj g.w4<|Cj g.lt<|Cj @eM<|Cj @dU<|Cj @ed<|Cj d<|Cj u<|Cj e<|Cj @aU<|(aZ C)) trivial w (k1 ?_);all_goals first
    |contradiction
    |exact LI.next (m':=j-1) ae ⟨i+1,H,ae,rfl⟩
  .refine gR (Cj g.n0<|Cj g.b0<|Cj g.l0<|Cj g.b1<|Cj g.l1<|Cj g.g1<|Cj g.g2<|Cj g.g3<|Cj g.g4<|Cj g.s1<|Cj g.s2<|Cj g.s3<|Cj g.w1<|Cj g.w2<|Cj g.w3<|Cj g.w4<|Cj g.lt<|Cj @eM<|Cj @dU<|Cj @ed<|Cj d<|Cj u<|Cj e<|Cj @aU<|C) trivial w (k1 ?_);all_goals first
    |contradiction
    |exact⟨(_,_),rfl,rfl⟩
 .have d:¬(i:Int)<l.length:=ae;refine gN (Cj g.n0<|Cj g.b0<|Cj g.l0<|Cj g.b1<|Cj g.l1<|Cj g.g1<|Cj g.g2<|Cj g.g3<|Cj g.g4<|Cj g.s1<|Cj g.s2<|Cj g.s3<|Cj g.w1<|Cj g.w2<|Cj g.w3<|Cj g.w4<|Cj g.lt<|Cj @eM<|Cj @dU<|Cj @ed<|Cj d<|@aU) (k1 ?_);refine bU (λj t=>∃(i:Nat) (o:Sg),i+j=l.length/\t=⟨[(0,.ptr 4 0),(23,.p (.slice f (bD l))),(24,.p (.int .i64 l.length)),(25,.p (.int .i64 i))],L++Hc p o,n,[n,n,n]⟩) ?_ l.length _ ⟨0,o,ae,rfl⟩;rintro j t ⟨i,o,F,rfl⟩;refine bq IY.eq_1 ?_;rcases cK i l.length with c|c
  .have d:(i:Int)<l.length:=ae;have u:(0:Int)<=i:=ae;have e:=kG l i c;generalize l[i]=q at e;obtain⟨x,name,max,a,b,A,m,B,v⟩:=q;simp only[aX.cs]at e;by_cases D:x=1
   .refine gN (Cj g.n0<|Cj g.b0<|Cj g.l0<|Cj g.b1<|Cj g.l1<|Cj g.g1<|Cj g.g2<|Cj g.g3<|Cj g.g4<|Cj g.s1<|Cj g.s2<|Cj g.s3<|Cj g.w1<|Cj g.w2<|Cj g.w3<|Cj g.w4<|Cj g.lt<|Cj @eM<|Cj @dU<|Cj @ed<|Cj d<|Cj u<|Cj e<|Cj @aU<|(aZ D)) (k1 ?_);all_goals first
     |contradiction
     |exact LI.next (m':=j-1) ae ⟨i+1,_,ae,rfl⟩
   .refine gN (Cj g.n0<|Cj g.b0<|Cj g.l0<|Cj g.b1<|Cj g.l1<|Cj g.g1<|Cj g.g2<|Cj g.g3<|Cj g.g4<|Cj g.s1<|Cj g.s2<|Cj g.s3<|Cj g.w1<|Cj g.w2<|Cj g.w3<|Cj g.w4<|Cj g.lt<|Cj @eM<|Cj @dU<|Cj @ed<|Cj d<|Cj u<|Cj e<|Cj @aU<|D) (k1 ?_);all_goals first
     |contradiction
     |exact LI.next (m':=j-1) ae ⟨i+1,_,ae,rfl⟩
  .have d:¬(i:Int)<l.length:=ae;refine gN (Cj g.n0<|Cj g.b0<|Cj g.l0<|Cj g.b1<|Cj g.l1<|Cj g.g1<|Cj g.g2<|Cj g.g3<|Cj g.g4<|Cj g.s1<|Cj g.s2<|Cj g.s3<|Cj g.w1<|Cj g.w2<|Cj g.w3<|Cj g.w4<|Cj g.lt<|Cj @eM<|Cj @dU<|Cj @ed<|d) (k1 ?_);all_goals exact⟨(_,_),rfl,rfl⟩
include hp in
theorem NW:∀(n:Nat) (s:aX),s.sz<=n->n<=1048576->s.ok->EO s->Y6 p s
 |0,s,o,_,_,_=>by have:=s.zg;omega
 |n+1,.mk t name max a b f c q e,o,A,d,g=>by
  simp only[aX.ok]at d;obtain⟨_,_,_,⟨_,h⟩,⟨_,i⟩,j,k⟩:=d;simp only[aX.sz]at o;rw[EO]at g;obtain⟨u,v,w⟩:=g;have r:∀(m:Bool) (l:List aX),dF l<=n->cD l->oo l->Ud p m l:=λm l x y z=>
   yM hp m l (by have:=da l;omega) λs d=>NW n s (dL (gO d) x) ae (fk y s d) (rr z s d)
  exact Xc hp t name max a b f c q e (by simpa[iq]using h) (by simpa[iq]using i) u (r f c ae j v) (r q e ae k w)
include hp in
theorem Vj(f:Bool)(l:List aX)(b:dF l<=1048576)(c:cD l)(d:oo l):Ud p f l:=
 yM hp f l (by have:=da l;omega) λs a=>NW hp _ s (gO a) b (fk c s a) (rr d s a)
end
end
section
open Go Go.Dv
abbrev Sg0:Sg:=⟨0,λ_=>none,0,λ_=>none,0,λ_=>none⟩
def L6(p:Pc):(fh p).all (below 1 dep)=true:=rfl
def Mn(p:Pc)(h:jM p):∃r:PV×Int,PS tb 132 [.agg (cq p)] (.tuple [r.1,.int .i64 r.2])/\(r.1=.undef\/∃n f,r.1=.map n f):=by
 obtain⟨K,u,d⟩:=rV p h;have e:=O6 p h;have x:=AH p h;generalize yD p=a at e x;have w:W tb DH.body {env:=aj 0 ([PV.agg (cq p)].map aQ),heap:=[],next:=0,marks:=[0]} (ic DH.results λv s=>∃n:{r:PV×Int//r.1=.undef\/∃n f,r.1=.map n f},bE s.heap dep v=some (.tuple [n.1.1,.int .i64 n.1.2])):=by
  unfold DH;dsimp only[List.map,aQ,aj,cq];dsimp only[cq]at u e;by_cases z:K=0
  case neg=>
   refine gP z u (k1 ?_);all_goals first
    |contradiction
    |exact⟨⟨(_,_),.inl rfl⟩,rfl⟩
  have d:=d z;refine gP (bf (aZ z) @b6) u (k1 ?_);have A:=L6 p;have g:=(F3 5).cg A;have E:∀s,ah (Hc (fh p) s) 5=none:=g.n0;have F:∀s,az 5 (Hc (fh p) s)=Hc (fh p) s:=g.b0;have G:∀s,cL 5 (Hc (fh p) s)=true:=g.l0;have l:∀s,tG (Hc (fh p) s)=5:=λ_=>rfl
  have L:∀s,ah (Hc (fh p) s) 4=some (.var false [.ptr 1 0,.ptr 2 0,.ptr 3 0]):=λ_=>rfl
  have H:∀s,ah (Hc (fh p) s) 0=some (.var false [.p (.str p.name),.p (.slice p.fp (e9 p.ps)),.p (.slice p.fb (bD p.body))]):=λ_=>rfl
  have M:∀s:Sg,ah (Hc (fh p) s) 3=some (.map false (.strs s.na (mZ s.a))):=λ_=>rfl
  have N:∀s,oe (Hc (fh p) s) 5=Hc (fh p) s:=λ_=>rfl
  refine bU (λj o=>∃(i:Nat) (s:Sg),i+j=p.ps.length/\o=⟨[(1,.ptr 0 0),(5,.ptr 4 0),(23,.p (.slice p.fp (e9 p.ps))),(24,.p (.int .i64 p.ps.length)),(25,.p (.int .i64 i))],Hc (fh p) s,5,[0]⟩) ?_ p.ps.length _ ⟨0,Sg0,ae,rfl⟩;rintro j o ⟨i,s,O,rfl⟩;refine bq Kz.eq_1 ?_;have P:=h.pl;rcases cK i p.ps.length with c|c
  .have b:(i:Int)<p.ps.length:=ae;have q:(0:Int)<=i:=ae;have t:=lT p.ps i c;have Q:=ue A ((F3 5).cons (k:=.var false [.p (.str p.ps[i].name),.p (.int .i64 p.ps[i].ty)])) s p.ps[i].name p.ps[i].ty;refine hR (ow b q t @b6 E F G l N) trivial Q (k2 ?_ ?_)<;>(repeat with_reducible intro R)
   all_goals first
    |exact⟨⟨(_,_),.inl rfl⟩,rfl⟩
    |exact LI.next (m':=j-1) ae ⟨i+1,_,ae,rfl⟩
  .have b:¬(i:Int)<p.ps.length:=ae;refine gP (uU b E F G l H @aE) e (k1 ?_);refine bU (λj o=>∃(i:Nat) (n:Nat) (m:P5),i+j=a.length/\o=⟨[(1,.ptr 0 0),(5,.ptr 4 0),(8,.ptr 5 0),(41,.p (.slice false (aA a))),(42,.p (.int .i64 a.length)),(43,.p (.int .i64 i))],(5,.map false (.strs n (ts m)))::Hc (fh p) s,6,[0]⟩) ?_ a.length _ ⟨0,0,λ_=>none,ae,rfl⟩;rintro j o ⟨i,n,m,O,rfl⟩;refine bq Jk.eq_1 ?_;have B:az 6 (Hc (fh p) s)=Hc (fh p) s:=g.b1 s;have C:cL 6 (Hc (fh p) s)=true:=g.l1 s;rcases cK i a.length with c|c
   .have b:(i:Int)<a.length:=ae;have q:(0:Int)<=i:=ae;have t:=jN a i c;cases I:m a[i]with
    |none=>
     have D:ts m a[i]=none:=by simp[ts,I]
     refine gN (ow b q t D @aE B C l @ed) (k1 ?_);all_goals exact LI.next (m':=j-1) ae ⟨i+1,_,_,ae,rfl⟩
    |some y=>
     have D:ts m a[i]=some (.one (.bool y)):=by simp[ts,I]
     refine hN (ow b q t D @aE B C l @ed) (k2 ?_ ?_)<;>(repeat with_reducible intro R)
     all_goals first
      |exact⟨⟨(_,_),.inl rfl⟩,rfl⟩
      |exact LI.next (m':=j-1) ae ⟨i+1,_,_,ae,rfl⟩
   .have b:¬(i:Int)<a.length:=ae;obtain⟨⟨r,U⟩,J⟩:=Vj A p.fb p.body h.bz h.bo d _ _ s ((F3 5).cons (k:=.map false (.strs n (ts m))));dsimp only at J;refine gR (uU b B C l H M L) trivial J (k1 ?_);all_goals exact⟨⟨(_,_),.inr ⟨_,_,rfl⟩⟩,rfl⟩
 obtain⟨⟨n,S⟩,h⟩:=nq (T:=tb) (f:=132) (af:=DH) rfl rfl w;exact⟨n,h,S⟩
end
section
open Go Go.Dv
def Dk(p:Pc)(h:jM p):∃r:Int,PS tb 111 [.agg (cq p)] (.int .i64 r)/\True:=by
 obtain⟨⟨x,r⟩,a,b⟩:=Mn p h;dsimp only at a b;refine mA (af:=Jt) rfl rfl ?_;unfold Jt;dsimp only[List.map,aQ,aj,cq];dsimp only[cq]at a;rcases b with rfl|⟨n,f,rfl⟩
 .refine gP trivial a (k1 ?_);all_goals exact⟨⟨_,trivial⟩,rfl⟩
 .refine gP trivial a (k1 ?_);all_goals exact⟨⟨_,trivial⟩,rfl⟩
def tP(v:bX):Bool:=if v.k=1 then decide (v.s=E)else if v.k=2 then decide (v.n=0)&&ga v.s else false
def zt{l:List bX}{i:Nat}(c:i<l.length)(b:∀v∈l.take i,tP v=true)(h:tP l[i]=true):∀v∈l.take (i+1),tP v=true:=λv a=>by
 rw[List.take_succ_eq_append_getElem c,List.mem_append,List.mem_singleton]at a;rcases a with a|rfl
 .exact b v a
 .exact h
def FY(p:Pc)(h:jM p)(q:Bool)(args:List bX)(y:args.length<=1048576)(u:∀v∈args,v.s.size<=1048576):∃r:Int,PS tb 80 [.agg (cq p),.slice q (bF args)] (.int .i64 r)/\(r=0->args.length=p.ps.length/\∀v∈args,tP v=true):=by
 obtain⟨w,g,_⟩:=Dk p h;have a:=h.pl;refine mA (af:=a80) rfl rfl ?_;unfold a80;dsimp only[List.map,aQ,aj,cq];dsimp only[cq]at g;by_cases o:w=0
 case neg=>
  refine gP (c9 o @cv @b6) g (k1 ?_);all_goals first
   |contradiction
   |exact⟨⟨_,by intro h;omega⟩,rfl⟩
 by_cases x:args.length=p.ps.length
 case neg=>
  have b:¬(args.length:Int)=p.ps.length:=ae;refine gP (eY (aZ o) b @cv @b6) g (k1 ?_);all_goals first
   |contradiction
   |exact⟨⟨_,by intro h;omega⟩,rfl⟩
 have b:(args.length:Int)=p.ps.length:=ae;refine gP (eY (aZ o) (aZ b) @cv @b6) g (k1 ?_);refine bU (λj s=>∃i:Nat,i+j=args.length/\(∀v∈args.take i,tP v=true)/\s=⟨[(2,.ptr 0 0),(20,.p (.slice q (bF args))),(21,.p (.int .i64 args.length)),(22,.p (.int .i64 i))],[(0,.var false [.p (.str p.name),.p (.slice p.fp (e9 p.ps)),.p (.slice p.fb (bD p.body))])],1,[0]⟩) ?_ args.length _ ⟨0,ae,aB,rfl⟩;rintro j s ⟨i,z,e,rfl⟩;refine bq Od.eq_1 ?_;rcases cK i args.length with c|c
 .have d:(i:Int)<args.length:=ae;have k:(0:Int)<=i:=ae;have l:=tF args i c;have m:=lT p.ps i ae;have n:(i:Int)<p.ps.length:=ae;have a:=MO args[i].s (u _ (List.getElem_mem c));by_cases k1:args[i].k=1
  .have k2:¬args[i].k=2:=ae;refine hP (ow d k l m n (aZ k1) k2 @cv @b6) a (k3 ?_ ?_ ?_)<;>(repeat with_reducible intro t)
   all_goals first
    |contradiction
    |exact⟨⟨_,by intro h;omega⟩,rfl⟩
    |exact LI.next (m':=j-1) ae ⟨i+1,ae,zt c e (by unfold tP;simp_all),rfl⟩
  .by_cases k2:args[i].k=2
   .refine hP (ow d k l m n k1 (aZ k2) @cv @b6) a (k4 ?_ ?_ ?_ ?_)<;>(repeat with_reducible intro t)
    all_goals first
     |contradiction
     |exact⟨⟨_,by intro h;omega⟩,rfl⟩
     |exact LI.next (m':=j-1) ae ⟨i+1,ae,zt c e (by unfold tP;simp_all),rfl⟩
   .repeat'(first|exact a|(simp(disch:=omega) only[go_sem,seval,reduceCtorEq,d,k,l,m,n,k1,k2,cv,b6])|with_reducible exact Ev.mk|apply gb|((first|apply b5|apply bO)<;>intro f t<;>(simp(disch:=omega) only[go_sem,seval,reduceCtorEq,d,k,l,m,n,k1,k2,cv,b6,f])<;>clear f))
    all_goals first
     |contradiction
     |exact⟨⟨_,by intro h;omega⟩,rfl⟩
     |exact LI.next (m':=j-1) ae ⟨i+1,ae,zt c e (by unfold tP;simp_all),rfl⟩
 .have d:¬(i:Int)<args.length:=ae;refine gN d (k1 ?_);rw[List.take_of_length_le c]at e;exact⟨⟨_,λ_=>⟨x,e⟩⟩,rfl⟩
end
section
open Go Go.Dv
abbrev I4:=Int×Int×Int×Int
abbrev kP(c:I4):List PV:=[.int .i64 c.1,.int .i64 c.2.1,.int .i64 c.2.2.1,.int .i64 c.2.2.2]
def Cf{f:FuncId}{af:au}(b:tb.A f=some af){args:List PV}(e:args.length=af.nparams)
  (h:W tb af.body {env:=aj 0 (args.map aQ),heap:=[],next:=0,marks:=[0]} (ic af.results λv s=>∃n:I4,bE s.heap dep v=some (.agg (kP n))))(a:af.rs=false:=by rfl):∃n:I4,PS tb f args (.agg (kP n)):=by
 obtain⟨n,h⟩:=nq (T:=tb) b e h (hrs:=a);exact⟨n,h⟩
def Ax:∀(k:Nat) (e:aF),e.sz<=k->k<=1048576->∃r:Int,PS tb 170 [.agg [.int .i64 e.op,.int .i64 e.n,.str e.s,.slice e.f (aJ e.xs)]] (.int .i64 r)/\True
 |0,e,a,_=>by cases e;simp[aF.sz]at a
 |k+1,e,a,u=>by
  have h:e.xs.length<=1048576:=by have:=bI e.xs;rw[aF.fj]at a;omega
  have b:cI e.xs<=k:=by rw[aF.fj]at a;omega
  have o:∀(f:Int) (q:Nat),W tb (.loop C4) ⟨[(3,.p (.int .i64 f)),(13,.p (.slice e.f (aJ e.xs))),(14,.p (.int .i64 e.xs.length)),(15,.p (.int .i64 0))],[],q,[0]⟩
    (BK 1 (SK tb (.seq (.aT false [(.o 24 (.move (.t 3)),[3]),(.o 25 (.jr false (.t 24) [.i 16385]),[24]),(.o 2 (.move (.t 25)),[25])]) .ret) (ic [gm.tmp 2] λv s=>∃n:{n:Int//True},bE s.heap 5 v=some (.int .i64 n.1)))):=by
   intro f q;refine bU (λj l=>∃(i:Nat) (n:Int) (q:Nat),i+j=e.xs.length/\l=⟨[(3,.p (.int .i64 n)),(13,.p (.slice e.f (aJ e.xs))),(14,.p (.int .i64 e.xs.length)),(15,.p (.int .i64 i))],[],q,[0]⟩) ?_ e.xs.length _ ⟨0,f,q,ae,rfl⟩;rintro j l ⟨i,n,q,w,rfl⟩;refine bq C4.eq_1 ?_;rcases cK i e.xs.length with c|c
   .have g:(i:Int)<e.xs.length:=ae;have p:(0:Int)<=i:=ae;have m:=jh e.xs i c;rw[aF.pM]at m;obtain⟨r,t,_⟩:=Ax k e.xs[i] (dL (ja (List.getElem_mem c)) b) ae;refine gP (eY g p m @aD) t (k1 ?_);exact LI.next (m':=j-1) ae ⟨i+1,_,_,ae,rfl⟩
   .have g:¬(i:Int)<e.xs.length:=ae;refine gN g (k1 ?_);all_goals exact⟨⟨_,trivial⟩,rfl⟩
  refine mA (af:=RS) rfl rfl ?_;unfold RS;dsimp only[List.map,aQ,aj];refine hN @aD (k4 ?_ ?_ ?_ ?_)<;>(repeat with_reducible intro x)
  all_goals exact o _ _
section
variable(c d:I4)
def RC:∃r:I4,PS tb 134 [.agg (kP c),.agg (kP d)] (.agg (kP r)):=by
 refine Cf (af:=RA) rfl rfl ?_;unfold RA;dsimp only[List.map,aQ,aj,kP];refine gN trivial (k1 ?_);refine bU (λj a=>∃(i:Nat) (b e f g:Int),i+j=4/\a=⟨[(2,.ptr 0 0),(3,.ptr 1 0),(4,.ptr 2 0),(6,.p (.int .i64 i))],[(2,.var false [.p (.int .i64 0),.p (.int .i64 0),.p (.int .i64 0),.p (.int .i64 0)]),(1,.var false [.p (.int .i64 d.1),.p (.int .i64 d.2.1),.p (.int .i64 d.2.2.1),.p (.int .i64 d.2.2.2)]),(0,.var false [.p (.int .i64 b),.p (.int .i64 e),.p (.int .i64 f),.p (.int .i64 g)])],3,[0]⟩) ?_ 4 _ ⟨0,_,_,_,_,ae,rfl⟩;rintro j a ⟨i,b,e,f,g,k,rfl⟩;refine bq I8.eq_1 ?_;have h:i=0\/i=1\/i=2\/i=3\/i=4:=ae;rcases h with rfl|rfl|rfl|rfl|rfl
 .refine gN bC (k1 ?_);all_goals exact LI.next (m':=3) ae ⟨1,_,_,_,_,ae,rfl⟩
 .refine gN bC (k1 ?_);all_goals exact LI.next (m':=2) ae ⟨2,_,_,_,_,ae,rfl⟩
 .refine gN bC (k1 ?_);all_goals exact LI.next (m':=1) ae ⟨3,_,_,_,_,ae,rfl⟩
 .refine gN bC (k1 ?_);all_goals exact LI.next (m':=0) ae ⟨4,_,_,_,_,ae,rfl⟩
 .refine gN bC (k1 ?_);all_goals exact⟨(_,_,_,_),rfl⟩
def M0:∃r:I4,PS tb 171 [.agg (kP c),.agg (kP d)] (.agg (kP r)):=by
 refine Cf (af:=a171) rfl rfl ?_;unfold a171;dsimp only[List.map,aQ,aj,kP];refine gN trivial (k1 ?_);refine bU (λj a=>∃(i:Nat) (b e f g:Int),i+j=4/\a=⟨[(2,.ptr 0 0),(3,.ptr 1 0),(4,.ptr 2 0),(6,.p (.int .i64 i))],[(2,.var false [.p (.int .i64 0),.p (.int .i64 0),.p (.int .i64 0),.p (.int .i64 0)]),(1,.var false [.p (.int .i64 d.1),.p (.int .i64 d.2.1),.p (.int .i64 d.2.2.1),.p (.int .i64 d.2.2.2)]),(0,.var false [.p (.int .i64 b),.p (.int .i64 e),.p (.int .i64 f),.p (.int .i64 g)])],3,[0]⟩) ?_ 4 _ ⟨0,_,_,_,_,ae,rfl⟩;rintro j a ⟨i,b,e,f,g,k,rfl⟩;refine bq I1.eq_1 ?_;have h:i=0\/i=1\/i=2\/i=3\/i=4:=ae;rcases h with rfl|rfl|rfl|rfl|rfl
 .refine gN bC (k1 ?_);all_goals exact LI.next (m':=3) ae ⟨1,_,_,_,_,ae,rfl⟩
 .refine gN bC (k1 ?_);all_goals exact LI.next (m':=2) ae ⟨2,_,_,_,_,ae,rfl⟩
 .refine gN bC (k1 ?_);all_goals exact LI.next (m':=1) ae ⟨3,_,_,_,_,ae,rfl⟩
 .refine gN bC (k1 ?_);all_goals exact LI.next (m':=0) ae ⟨4,_,_,_,_,ae,rfl⟩
 .refine gN bC (k1 ?_);all_goals exact⟨(_,_,_,_),rfl⟩
def QG(n:Int):∃r:I4,PS tb 172 [.agg (kP c),.int .i64 n] (.agg (kP r)):=by
 refine Cf (af:=TF) rfl rfl ?_;unfold TF;dsimp only[List.map,aQ,aj,kP];refine gN trivial (k1 ?_);refine bU (λj a=>∃(i:Nat) (b e f g:Int),i+j=4/\a=⟨[(1,.p (.int .i64 n)),(2,.ptr 0 0),(4,.ptr 1 0),(6,.p (.int .i64 i))],[(1,.var false [.p (.int .i64 0),.p (.int .i64 0),.p (.int .i64 0),.p (.int .i64 0)]),(0,.var false [.p (.int .i64 b),.p (.int .i64 e),.p (.int .i64 f),.p (.int .i64 g)])],2,[0]⟩) ?_ 4 _ ⟨0,_,_,_,_,ae,rfl⟩;rintro j a ⟨i,b,e,f,g,k,rfl⟩;refine bq Kv.eq_1 ?_;have h:i=0\/i=1\/i=2\/i=3\/i=4:=ae;rcases h with rfl|rfl|rfl|rfl|rfl
 .refine gN bC (k1 ?_);all_goals exact LI.next (m':=3) ae ⟨1,_,_,_,_,ae,rfl⟩
 .refine gN bC (k1 ?_);all_goals exact LI.next (m':=2) ae ⟨2,_,_,_,_,ae,rfl⟩
 .refine gN bC (k1 ?_);all_goals exact LI.next (m':=1) ae ⟨3,_,_,_,_,ae,rfl⟩
 .refine gN bC (k1 ?_);all_goals exact LI.next (m':=0) ae ⟨4,_,_,_,_,ae,rfl⟩
 .refine gN bC (k1 ?_);all_goals exact⟨(_,_,_,_),rfl⟩
end
noncomputable def YQ (c d:I4):I4:=Classical.epsilon λr=>PS tb 134 [.agg (kP c),.agg (kP d)] (.agg (kP r))
def zV(a b e f g h i j:Int):PS tb 134 [.agg [.int .i64 a,.int .i64 b,.int .i64 e,.int .i64 f],.agg [.int .i64 g,.int .i64 h,.int .i64 i,.int .i64 j]] (.agg (kP (YQ (a,b,e,f) (g,h,i,j)))):=j9 (RC (a,b,e,f) (g,h,i,j))
noncomputable def Y2 (c d:I4):I4:=Classical.epsilon λr=>PS tb 171 [.agg (kP c),.agg (kP d)] (.agg (kP r))
def O0(a b e f g h i j:Int):PS tb 171 [.agg [.int .i64 a,.int .i64 b,.int .i64 e,.int .i64 f],.agg [.int .i64 g,.int .i64 h,.int .i64 i,.int .i64 j]] (.agg (kP (Y2 (a,b,e,f) (g,h,i,j)))):=j9 (M0 (a,b,e,f) (g,h,i,j))
noncomputable def YW (c:I4) (n:Int):I4:=Classical.epsilon λr=>PS tb 172 [.agg (kP c),.int .i64 n] (.agg (kP r))
def Pv(a b e f n:Int):PS tb 172 [.agg [.int .i64 a,.int .i64 b,.int .i64 e,.int .i64 f],.int .i64 n] (.agg (kP (YW (a,b,e,f) n))):=j9 (QG (a,b,e,f) n)
def PG(e:Int)(name:ByteArray)(max:Int)(a b:aF)(f:Bool)(i:List aX)(g:Bool)(v:List aX)(C:a.sz<=1048576)(D:b.sz<=1048576)(k:∃r:I4,PS tb 114 [.slice f (bD i)] (.agg (kP r)))(w:∃r:I4,PS tb 114 [.slice g (bD v)] (.agg (kP r))):
  ∃r:I4,PS tb 135 [.agg (oI e name max a b f i g v)] (.agg (kP r)):=by
 obtain⟨G,t,_⟩:=Ax a.sz a (Nat.le_refl _) C;obtain⟨H,h,_⟩:=Ax b.sz b (Nat.le_refl _) D;obtain⟨⟨I,J,K,L⟩,E⟩:=k;obtain⟨⟨M,N,O,P⟩,F⟩:=w;dsimp only[kP]at E F;refine Cf (af:=T9) rfl rfl ?_;unfold T9;dsimp only[List.map,aQ,aj];by_cases l:e=8
 .have j:¬e=3:=ae;have m:¬e=4:=ae;have u:¬e=7:=ae;have x:¬e=5:=ae;have B:¬e=6:=ae;refine gN (uU (aZ l) j m u x B bC) (k1 ?_);all_goals exact⟨(_,_,_,_),rfl⟩
 by_cases j:e=3
 .refine gP (c9 l (aZ j) bC) (bf t h) (k1 ?_);all_goals exact⟨(_,_,_,_),rfl⟩
 by_cases m:e=4
 .refine gP (eY l j (aZ m) bC) (bf t h) (k1 ?_);all_goals exact⟨(_,_,_,_),rfl⟩
 by_cases u:e=7
 .refine gP (dM l j m (aZ u) bC) (bf t h) (k1 ?_);all_goals exact⟨(_,_,_,_),rfl⟩
 by_cases x:e=5
 .refine gP (pS l j m u (aZ x) bC) (dM t E F (λ{n o p q s y z A}=>O0 n o p q s y z A) (λ{n o p q s y z A}=>zV n o p q s y z A)) (k1 ?_);all_goals exact⟨(_,_,_,_),rfl⟩
 by_cases B:e=6
 .refine gP (uU l j m u x (aZ B) bC) (dM t h E (λ{n o p q s}=>Pv n o p q s) (λ{n o p q s y z A}=>zV n o p q s y z A)) (k1 ?_);all_goals exact⟨(_,_,_,_),rfl⟩
 .refine gP (uU l j m u x B bC) (bf t h) (k1 ?_);all_goals exact⟨(_,_,_,_),rfl⟩
end
section
open Go Go.Dv
def D7(f:Bool)(l:List aX)(h:l.length<=1048576)(u:∀s∈l,∃r:I4,PS tb 135 [.agg s.cs] (.agg (kP r))):∃r:I4,PS tb 114 [.slice f (bD l)] (.agg (kP r)):=by
 refine Cf (af:=RL) rfl rfl ?_;unfold RL;dsimp only[List.map,aQ,aj];refine gN @aU (k1 ?_);refine bU (λj k=>∃(i:Nat) (m n o p:Int),i+j=l.length/\k=⟨[(2,.ptr 0 0),(3,.ptr 1 0),(6,.p (.slice f (bD l))),(7,.p (.int .i64 l.length)),(8,.p (.int .i64 i))],[(1,.var false [.p (.int .i64 m),.p (.int .i64 n),.p (.int .i64 o),.p (.int .i64 p)]),(0,.var false [.p (.int .i64 0),.p (.int .i64 0),.p (.int .i64 0),.p (.int .i64 0)])],2,[0]⟩) ?_ l.length _ ⟨0,_,_,_,_,ae,rfl⟩;rintro j k ⟨i,m,n,o,p,F,rfl⟩;refine bq KL.eq_1 ?_;rcases cK i l.length with c|c
 .have e:(i:Int)<l.length:=ae;have v:(0:Int)<=i:=ae;have g:=kG l i c;obtain⟨⟨G,H,I,J⟩,d⟩:=u l[i] (List.getElem_mem c);generalize l[i]=q at g d;obtain⟨K,name,max,a,b,L,t,M,w⟩:=q;simp only[aX.cs]at g d;dsimp only[kP]at d;refine gP (dM e v g @aU bC) (bf d (λ{x y z A B C D E}=>zV x y z A B C D E)) (k1 ?_);all_goals exact LI.next (m':=j-1) ae ⟨i+1,_,_,_,_,ae,rfl⟩
 .have e:¬(i:Int)<l.length:=ae;refine gN (bf e bC) (k1 ?_);all_goals exact⟨(_,_,_,_),rfl⟩
def EW:∀(n:Nat) (s:aX),s.sz<=n->n<=1048576->s.ok->∃r:I4,PS tb 135 [.agg s.cs] (.agg (kP r))
 |0,s,p,_,_=>by have:=s.zg;omega
 |n+1,.mk t name max a b f c g d,p,w,e=>by
  simp only[aX.ok]at e;obtain⟨_,_,_,⟨_,i⟩,⟨_,j⟩,k,m⟩:=e;simp only[aX.sz]at p;have q:∀(o:Bool) (l:List aX),dF l<=n->cD l->∃r:I4,PS tb 114 [.slice o (bD l)] (.agg (kP r)):=λo l u v=>
   D7 o l (by have:=da l;omega) λs e=>EW n s (dL (gO e) u) ae (fk v s e)
  have h:=PG t name max a b f c g d (by simpa[iq]using i) (by simpa[iq]using j) (q f c ae k) (q g d ae m);simpa only[aX.cs]using h
def Ow(f:Bool)(l:List aX)(b:dF l<=1048576)(c:cD l):∃r:I4,PS tb 114 [.slice f (bD l)] (.agg (kP r)):=
 D7 f l (by have:=da l;omega) λs a=>EW _ s (gO a) b (fk c s a)
def L7(p:Pc)(name:p.name.size<=1048576)(d:dF p.body<=1048576)(e:cD p.body)(hD:∃r:Int,PS tb 113 [.agg (cq p)] (.int .i64 r)/\True):∃r:Int,PS tb 81 [.agg (cq p)] (.int .i64 r)/\True:=by
 obtain⟨r,b,_⟩:=hD;obtain⟨⟨f,g,h,i⟩,c⟩:=Ow p.fb p.body d e;dsimp only[kP]at c;refine mA (af:=Yj) rfl rfl ?_;unfold Yj;dsimp only[List.map,aQ,aj,cq];dsimp only[cq]at b;repeat'(first|exact b|exact c|(simp(disch:=omega) only[go_sem,seval,reduceCtorEq])|with_reducible exact Ev.mk|apply gb|((first|apply b5|apply bO)<;>intro a j<;>(simp(disch:=omega) only[go_sem,seval,reduceCtorEq,a])<;>clear a))
 all_goals exact⟨⟨_,trivial⟩,rfl⟩
end
section
open Go Go.Dv
def sr{T:dk}{f:FuncId}{args:List PV}{r b:PV}(h:PS T f args r)(a:PS T f args b):r=b:=by
 obtain⟨n,h⟩:=h;obtain⟨m,a⟩:=a;have d:=(fN T.A T.X (lZ n m)).pure _ _ _ h;have c:=(fN T.A T.X (lU n m)).pure _ _ _ a;rw[d]at c;exact GU c
def ME(p:Pc)(h:jM p):∃r:Int,PS tb 113 [.agg (cq p)] (.int .i64 r)/\True:=by
 obtain⟨r,a,_⟩:=Dk p h;obtain⟨n,k,b,c⟩:=PQ p h;refine mA (af:=Si) rfl rfl ?_;unfold Si;dsimp only[List.map,aQ,aj,cq];dsimp only[cq]at a c;refine hP trivial (bf a c) (k3 ?_ ?_ ?_)<;>(repeat with_reducible intro d)
 all_goals exact⟨⟨_,trivial⟩,rfl⟩
def Iz(p:Pc)(h:jM p):∃r:Int,PS tb 81 [.agg (cq p)] (.int .i64 r)/\True:=L7 p h.nm h.bz h.bo (ME p h)
structure sX(t:Tx):Prop where
 al:t.args.length<=1048576
 vs:∀v∈t.args,cQ v
 ft:Fc t.eT
def My(p:Pc)(h:jM p)(t:Tx)(a:sX t):wA p t:=by
 obtain⟨e,b,f⟩:=FY p h t.fa t.args a.al λv g=>(a.vs v g).2.2
 obtain⟨c,i,_⟩:=Iz p h;refine⟨⟨c,i⟩,⟨e,b⟩,λj=>?_,h.bo,dL h.bz ae,h.pl,a.vs,a.ft⟩;have k:PS tb 80 [.agg (cq p),.slice t.fa (bF t.args)] (.int .i64 (kQ p t.fa t.args)):=j9 (p:=λe=>PS tb 80 [.agg (cq p),.slice t.fa (bF t.args)] (.int .i64 e)) ⟨e,b⟩;have d:=sr k b;simp only[PV.int.injEq,true_and]at d;exact(f (by rw[<-d];exact j)).1
def Rh{a:List Pc}(b:a.length<=1048576)(h:∀p∈a,jM p){t:Tx}(c:sX t):Dy a t:=⟨b,λp d=>My p (h p d) t c⟩
end
end Go.Dv.Tryz
