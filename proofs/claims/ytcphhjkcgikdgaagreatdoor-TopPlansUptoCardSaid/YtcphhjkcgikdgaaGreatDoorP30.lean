/- Lemmas for the law of this claim. -/
import Derived.Test.YtcphhjkcgikdgaaGreatDoorP26
import Derived.Test.YtcphhjkcgikdgaaGreatDoorP27
import Derived.Test.YtcphhjkcgikdgaaGreatDoorP24
import Derived.Test.YtcphhjkcgikdgaaGreatDoorP25
set_option linter.all false
set_option maxRecDepth 100000
set_option maxHeartbeats 8000000
namespace Go.Dv.Tryz
section
open Go Go.Dv
abbrev jI:MS:=⟨0,λ_=>none,0,λ_=>none,[],[],[],0⟩
def Vn(k:Kc)(a b c:ca):BS tb 84 [.p (.slice k.sb (bm k.st)),.agg [.p (.bool k.all),.p (.slice k.rb (aA k.rd)),.p (.slice k.wb (aA k.wr))]] [(2,c),(1,b),(0,a)] 4 (.ptr 7 0)
  ((10,.row false 1 [])::(9,.row false 1 [])::(8,.row false 3 [])::(7,.var false (pB k jI))::(6,.map false (.strs 0 (λ_=>none)))::(5,.map false (.strs 0 (λ_=>none)))::(4,.var false [.p (.bool k.all),.p (.slice k.rb (aA k.rd)),.p (.slice k.wb (aA k.wr))])::[(2,c),(1,b),(0,a)]) 11:=by
 refine zD (af:=SF) rfl rfl ?_;unfold SF;dsimp only[aj];refine gN bC (k1 ?_);all_goals simp[pB]
def TB(k:Kc)(a b c d:ca):BS tb 84 [.p (.slice k.sb (bm k.st)),.agg [.p (.bool k.all),.p (.slice k.rb (aA k.rd)),.p (.slice k.wb (aA k.wr))]] [(3,d),(2,c),(1,b),(0,a)] 4 (.ptr 7 0)
  ((10,.row false 1 [])::(9,.row false 1 [])::(8,.row false 3 [])::(7,.var false (pB k jI))::(6,.map false (.strs 0 (λ_=>none)))::(5,.map false (.strs 0 (λ_=>none)))::(4,.var false [.p (.bool k.all),.p (.slice k.rb (aA k.rd)),.p (.slice k.wb (aA k.wr))])::[(3,d),(2,c),(1,b),(0,a)]) 11:=by
 refine zD (af:=SF) rfl rfl ?_;unfold SF;dsimp only[aj];refine gN bC (k1 ?_);all_goals simp[pB]
abbrev zR:List PV:=[.int .i64 0,.int .i64 0,.slice true [],.str ⟨#[]⟩]
section
variable{f:FuncId}{caps:List DV}{H:Heap}{nx:Nat}{a0 r:DV}{H':Heap}{nx':Nat}
def Ck{v:DV}{a:Heap}{b:Nat}(h:BS tb f caps (rz zR H nx) (nx+2) v a b)(c:pU zR zR false a nx=some (r,H',nx')):BS tb 86 [a0,.func f caps] H nx r H' nx':=by
 obtain⟨n,d⟩:=h;refine⟨n+1,?_⟩;rw[dG];have e:tb.A 86=some Qn:=rfl;simp only[e];unfold jH Qn;simp only[gU,kZ,rG,d,c]
def Dj{a:List PV}{b:Heap}(h:DS tb f caps (rz zR H nx) (nx+2) (.iface 153 (.agg a)) b)(d:pU zR a true b nx=some (r,H',nx')):BS tb 86 [a0,.func f caps] H nx r H' nx':=by
 obtain⟨n,c⟩:=h;refine⟨n+1,?_⟩;rw[dG];have e:tb.A 86=some Qn:=rfl;simp only[e];unfold jH Qn;have g:=jE tb.A tb.X n _ _ _ _ _ c;simp only[gU,kZ,rG,g,c,d,bZ]
end
def wM{L T:Heap}{nx:Nat}(h:hZ L T nx)(k:Kc)(m:MS)(a:List PV)(g:a.length=4)(t:Bool)(b:List DV)(c:List DV)(i:b.length=4)(d:c.length=1):
  pU zR a t ((nx+1,.var false c)::(nx,.var false b)::(L++mb T k m)) nx=some (.tuple [.agg (a.map .p),.p (.bool t)],L++mb T k m,nx):=by
 have j:=(h.lz k m).ba nx (Nat.le_refl _);have e:=(h.lz k m).al nx (Nat.le_refl _);rw[<-mq]at e;have l:az nx ((nx+1,.var false c)::(nx,.var false b)::(L++mb T k m))=L++mb T k m:=by
  rw[az,an ae,az,an ae,j]
 unfold pU;rw[l];simp[ah,i,d,g,e]
end
section
open Go Go.Dv
def Hw(m:MS)(l:List ByteArray):List Pr:=l.map λk=>⟨k,(m.own k).getD V0⟩
def OR(m:MS)(l:List ByteArray)(i:Nat)(h:i<l.length){v:bX}(e:m.own l[i]=some v):bm (Hw m (l.take i))++[[.str l[i],.int .i64 v.k,.int .i64 v.n,.str v.s]]=bm (Hw m (l.take (i+1))):=by
 rw[List.take_succ_eq_append_getElem h];simp only[Hw,bm,List.map_append,List.map_cons,List.map_nil,uS,e,il]
def wL(m:MS)(l:List ByteArray):(bm (Hw m l)).length=l.length:=by simp[bm,Hw]
def Jd(a b c d:PV):bV 4 [[a,b,c,d]]=true:=rfl
abbrev CY(x:Nat)(c a:Int)(o:DV)(m:MS)(n:Nat)(b:ByteArray):List DV:=[.p (.int .i64 c),.p (.int .i64 a),o,.ref 9 m.reads.length 0 m.reads.length,.ref 10 m.cm.length 0 m.cm.length,.ref (x+15) n 0 n,.p (.str b),.p (.int .i64 m.steps)]
section
variable{T:Heap}
def tu{i:Nat}:∀{H:Heap},ah H i=none->oe H i=H
 |[],_=>rfl
 |(k,b)::r,h=>by
   rw[aP]at h;by_cases e:k=i
   .rw[aq e]at h;cases h
   .rw[an e]at h;have a:=tu h;simp only[oe,List.filter_cons]at a⊢;simp[e,a]
structure N4(T:Heap)(k:Kc)(m:MS):Prop where
 a:ah (mb T k m) 12=none
 b:ah (mb T k m) 13=none
 c:ah (mb T k m) 14=none
 d:ah (mb T k m) 15=none
 e:oe (mb T k m) 12=mb T k m
def hZ.n4(h:hZ [] T 12)(k:Kc)(m:MS):N4 T k m:=⟨(h.lz k m).no 12 ae,(h.lz k m).no 13 ae,(h.lz k m).no 14 ae,(h.lz k m).no 15 ae,tu ((h.lz k m).no 12 ae)⟩
def vh{L:Heap}{x:Nat}(h:hZ L T (x+12))(k:Kc)(m:MS)(b:jC m):BS tb 85 [.ptr 7 0,.agg [.p (.int .i64 0),.p (.int .i64 0),.p (.slice true []),.p (.str ⟨#[]⟩)],.p (.bool false)] (L++mb T k m) (x+12)
  (.agg (CY x 1 0 (.ref 8 m.out.length 0 m.out.length) m m.cm.length E)) ((x+15,.row false 4 (bm (Hw m m.cm)))::(x+14,.var false (CY x 1 0 (.ref 8 m.out.length 0 m.out.length) m m.cm.length E))::(x+13,.var false (CY x 1 0 (.ref 8 m.out.length 0 m.out.length) m m.cm.length E))::(L++mb T k m)) (x+16):=by
 refine zD (af:=a85) rfl rfl ?_;unfold a85;dsimp only[aj];have a:=h.lf k;have d:=tu (a.n0 m)
 (try simp(disch:=omega) only[go_sem,seval,reduceCtorEq,List.set_cons_succ,List.set_cons_zero,a.q,d,E,aE])
 refine bU (λj s=>∃i:Nat,i+j=m.cm.length/\s=⟨[(0,.ptr 7 0),(6,.ptr (x+13) 0),(7,.ptr (x+14) 0),(25,.ref 10 m.cm.length 0 m.cm.length),(26,.p (.int .i64 m.cm.length)),(27,.p (.int .i64 i))],
   (x+15,.row false 4 (bm (Hw m (m.cm.take i))))::(x+14,.var false (CY x 1 0 (.ref 8 m.out.length 0 m.out.length) m i ⟨#[]⟩))::(x+13,.var false [.p (.int .i64 0),.p (.int .i64 0),.p (.slice true []),.p (.slice true []),.p (.slice true []),.p (.slice true []),.p (.str ⟨#[]⟩),.p (.int .i64 0)])::(L++mb T k m),x+16,[x+12]⟩) ?_ m.cm.length _ ⟨0,ae,rfl⟩
 rintro j s ⟨i,y,rfl⟩;refine bq NJ.eq_1 ?_;rcases cK i m.cm.length with c|c
 .have e:(i:Int)<m.cm.length:=ae;have n:(0:Int)<=i:=ae;have o:=jN m.cm i c;have f:=b.po _ (List.getElem_mem c);have p:=b.pl;have q:=b.s1;obtain⟨v,g⟩:=py.1 f;have r:=CU g;have t:=OR m m.cm i c g;have l:=wL m (m.cm.take i);rw[List.length_take,MG ae]at l;have u:(i+1)*48<=ak:=by simp only[ak];omega
  have w:i+1<=ak:=by simp only[ak];omega
  refine gN (mg bC a.q d @aE e n o r t l u w @Jd) (k1 ?_);exact LI.next (m':=j-1) ae ⟨i+1,ae,rfl⟩
 .have e:¬(i:Int)<m.cm.length:=ae;obtain rfl:i=m.cm.length:=ae;refine gN (eY bC a.q d e) (k1 ?_);rw[List.take_length]
def vt{L:Heap}{x:Nat}(h:hZ L T (x+12))(k:Kc)(m:MS)(c a:Int)(b:ByteArray):BS tb 85 [.ptr 7 0,.agg [.p (.int .i64 c),.p (.int .i64 a),.p (.slice true []),.p (.str b)],.p (.bool true)] (L++mb T k m) (x+12)
  (.agg (CY x c a (.p (.slice true [])) m 0 b)) ((x+15,.row false 4 [])::(x+14,.var false (CY x c a (.p (.slice true [])) m 0 b))::(x+13,.var false (CY x c a (.p (.slice true [])) m 0 b))::(x+12,.var false [.p (.int .i64 c),.p (.int .i64 a),.p (.slice true []),.p (.str b)])::(L++mb T k m)) (x+16):=by
 refine zD (af:=a85) rfl rfl ?_;unfold a85;dsimp only[aj];have d:=h.lf k;refine gN (bf bC d.q) (k1 ?_);all_goals simp
end
end
section
open Go Go.Dv
def Q0(l:List ByteArray):Prop:=l.length<=68719476736
def Fc(f:Ft):Prop:=Q0 f.r/\Q0 f.w
def W9(l:List ByteArray)(b:Bool)(t:Q0 l)(K:Ex->St->Prop)(u:(∀j,j<l.length->vd l j=true)->K (.exit 0) ⟨[(0,.p (.slice b (aA l)))],[],0,[0]⟩)
  (n:∀i,i<l.length->vd l i=false->∀o,ah o.env 2=some (.p (.bool false))->K .ret o):∀(m i:Nat),i+m=l.length->(∀j,j<i->vd l j=true)->
  W tb ru ⟨[(0,.p (.slice b (aA l))),(5,.p (.slice b (aA l))),(6,.p (.int .i64 l.length)),(7,.p (.int .i64 i))],[],0,[0]⟩ (LK tb ru K):=by
 intro m;induction m with
 |zero=>
  intro i v c;have d:¬(i:Int)<l.length:=ae;refine bq ru.eq_1 ?_;refine gN (bf d @aE) (k1 ?_);exact u (λj B=>c j ae)
 |succ m p=>
  intro i v c;have d:(i:Int)<l.length:=ae;have e:i<l.length:=ae;have q:(0:Int)<=i:=ae;have r:=jN l i e;have w:0<i->(aA l)[i-1]?=some [.str (l.getD (i-1) E)]:=λh=>by rw[jN l (i-1) ae,dE l (i-1) ae]
  have s:l.length<=68719476736:=t;have a:vd l i=(lG l[i]&&(decide (i=0)||slt (l.getD (i-1) E) l[i])):=by simp only[vd];rw[dE l i e]
  have x:0<i->((i:Int)-1)=((i-1:Nat):Int):=λh=>ae
  by_cases C:i=0
  .have f:¬(0:Int)<i:=ae;refine bq ru.eq_1 ?_;refine hP (dM d q @aE r f) (λ{g}=>kD g) (k2 ?_ ?_)<;>(repeat with_reducible intro y)
   all_goals first
    |exact n i e (by rw[a];simp_all) _ rfl
    |(refine rn (dY ?_)
      refine nJ ?_;exact p (i+1) ae (tA c (by rw[a];simp_all)))
  .have f:(0:Int)<i:=ae;have z:=w ae;have A:=x ae;have k:(0:Int)<=((i-1:Nat):Int):=ae;refine bq ru.eq_1 ?_;refine hP (Gg d q @aE r f z A k) (λ{g}=>kD g) (k3 ?_ ?_ ?_)<;>(repeat with_reducible intro y)
   all_goals first
    |exact n i e (by rw[a];simp_all) _ rfl
    |(refine rn (dY ?_)
      refine nJ ?_;exact p (i+1) ae (tA c (by rw[a];simp_all)))
def Kb(l:List ByteArray)(b:Bool)(c:Q0 l):PS tb 115 [.slice b (aA l)] (.bool (uo l&&decide (l.length<=64))):=by
 have d:l.length<=68719476736:=c;refine bM (af:=RV) rfl rfl ?_;unfold RV;dsimp only[List.map,aQ,aj];refine gN @aE (k1 ?_);refine dY ?_;refine nJ ?_;refine W9 l b c _ ?_ ?_ l.length 0 ae aB
 .intro e
  (try simp(disch:=omega) only[go_sem,seval,reduceCtorEq,aE])
  have f:decide ((l.length:Int)<=64)=decide (l.length<=64):=GG.2 ae;simp only[Tk e,bE,dep,f,Bool.true_and]
 .intro i g h j a
  (try simp(disch:=omega) only[go_sem,seval,reduceCtorEq,a])
  simp[Rg g h,bE,dep]
def wi(f:Ft)(h:Fc f):PS tb 82 [.agg (rH f)] (.bool (kl f)):=by
 refine bM (af:=Y0) rfl rfl ?_;unfold Y0;dsimp only[List.map,aQ,rH,aj];have c:f.r.length<=68719476736:=h.1;have d:f.w.length<=68719476736:=h.2;cases a:f.all with
 |true=>
  refine hN @aE (k2 ?_ ?_)<;>(repeat with_reducible intro b)
  all_goals simp only[bE,dep,aw,PV.bool.injEq,kl,a,bZ]
  .rw[decide_eq_true (by omega:f.r.length=0),Bool.true_and];exact GG.2 ae
  .rw[decide_eq_false (by omega:¬f.r.length=0),Bool.false_and]
 |false=>
  refine hP @aE (bf (Kb f.r f.br h.1) (Kb f.w f.bw h.2)) (k2 ?_ ?_)<;>(repeat with_reducible intro b)
  all_goals simp only[bE,dep,aw,PV.bool.injEq,kl,a,Bool.false_eq_true,cy,b,Bool.true_and,Bool.false_and]
end
section
open Go Go.Dv
def fE:List Pm->List bX->MS->MS
 |p::a,v::b,m=>fE a b (gk p.name v m)
 |_,_,m=>m
def Bn:∀(a:List Pm) (b:List bX) (m:MS) (i:Nat) (h:i<a.length) (c:i<b.length),fE (a.take (i+1)) b m=gk a[i].name b[i] (fE (a.take i) b m)
 |[],_,_,_,h,_=>by simp at h
 |_,[],_,_,_,h=>by simp at h
 |p::a,v::b,m,0,_,_=>by simp[fE]
 |p::a,v::b,m,i+1,h,c=>by
  simp only[List.take_succ_cons,fE,List.getElem_cons_succ];exact Bn a b _ i (by simpa using h) (by simpa using c)
def wN{a p t:Int}:∀(c:List Pm) (b:List bX) (m:MS),MI a p t m->(∀v∈b,cQ v)->MI a p t (fE c b m)
 |[],_,_,h,_=>by simpa[fE]using h
 |_::_,[],_,h,_=>by simpa[fE]using h
 |p::c,v::b,m,h,d=>by
  rw[fE];exact wN c b _ (wj h p.name (d v aB)) λw e=>d w (List.mem_cons_of_mem _ e)
def B4:jC jI:=⟨List.Pairwise.nil,List.Pairwise.nil,aB,aB,aB,aB,aB,aB,aB,aB,aB⟩
abbrev YY(p:Pc):ca:=.var false [.p (.str p.name),.p (.slice p.fp (e9 p.ps)),.p (.slice p.fb (bD p.body))]
abbrev V4:List DV:=[.p (.int .i64 0),.p (.int .i64 0),.p (.slice true []),.p (.slice true []),.p (.slice true []),.p (.slice true []),.p (.str ⟨#[]⟩),.p (.int .i64 0)]
abbrev T1(k:Kc)(p:Pc):Heap:=[(4,.var false [.p (.bool k.all),.p (.slice k.rb (aA k.rd)),.p (.slice k.wb (aA k.wr))]),(2,.var false V4),(0,YY p)]
def NZ(k:Kc)(p:Pc):hZ [] (T1 k p) 12 where
 ge:=Nat.le_refl _
 ba:=λ_ _=>rfl
 al:=λ_ _=>rfl
 no:=λ_ _=>rfl
 bt:=λc hc=>by
  have h3:4<c:=ae;have h2:2<c:=ae;have h0:0<c:=ae;simp[az,h3,h2,h0]
 lt:=λc hc=>by simp[cL,ca.below,below,dep]
 nt:=λc hc=>by
  have h3:¬4=c:=ae;have h2:¬2=c:=ae;have h0:¬0=c:=ae;simp[ah,h3,h2,h0]
section
variable{T L:Heap}{nx:Nat}
def KB(k:Kc)(p:Pc)(m:MS)(h:hZ L T nx)(f:ah T 0=some (YY p))(a:CS tb 88 [.ptr 7 0,.p (.slice p.fb (bD p.body))] (L++mb T k m) nx (cC L T k nx Dh (bN k.cz p.body m))):
  CS tb 87 [.ptr 11 0,.ptr 0 0] (L++mb T k m) nx (cC L T k nx Dh (bN k.cz p.body m)):=by
 obtain⟨x,rfl⟩:=h.ex;have c:=h.lf k;have d:∀m,ah (L++mb T k m) 0=some (YY p):=λm=>by rw[h.g _ 0 ae];simpa[mb,ah]using f
 have b:∀m,ah (L++mb T k m) 11=some (.var false [.ptr 7 0]):=λm=>by rw[h.g _ 11 ae];rfl
 cases e:bN k.cz p.body m with
 |ok u g=>
  rw[e]at a;simp only[cC]at a⊢;refine fZ (af:=a87) rfl rfl ?_;unfold a87;dsimp only[aj];exact gR (c9 c.q d b) trivial a k0
 |no j l i g=>
  rw[e]at a;simp only[cC]at a⊢;refine fZ (af:=a87) rfl rfl ?_;unfold a87;dsimp only[aj];exact gD (c9 c.q d b) trivial trivial a k0
end
end
section
open Go Go.Dv
section
variable{k:Kc}{p:Pc}{m:MS}
def RN(k:Kc)(p:Pc):Prop:=∀(L:Heap) (a:Nat) (m:MS),hZ L (T1 k p) a->jC m->CS tb 88 [.ptr 7 0,.p (.slice p.fb (bD p.body))] (L++mb (T1 k p) k m) a (cC L (T1 k p) k a Dh (bN k.cz p.body m))
def Og(k:Kc)(p:Pc):hZ [(13,.var false [.p (.bool false)]),(12,.var false (zR.map .p))] (T1 k p) 14:=((NZ k p).cons (b:=.var false (zR.map .p))).cons (b:=.var false [.p (.bool false)])
def LL(b:RN k p)(c:jC m){a:MS}{u:Unit}(e:bN k.cz p.body m=.ok u a){a0:DV}:BS tb 86 [a0,.func 87 [.ptr 11 0,.ptr 0 0]] (mb (T1 k p) k m) 12 (.tuple [.agg [.p (.int .i64 0),.p (.int .i64 0),.p (.slice true []),.p (.str ⟨#[]⟩)],.p (.bool false)]) (mb (T1 k p) k a) 12:=by
 have h:=KB k p m (Og k p) rfl (b _ _ m (Og k p) c);rw[e]at h;exact Ck h (wM (L:=[]) (NZ k p) k a zR rfl false _ _ rfl rfl)
def M7(f:RN k p)(g:jC m){b:MS}{c d:Int}{a:ByteArray}(e:bN k.cz p.body m=.no c d a b){a0:DV}:BS tb 86 [a0,.func 87 [.ptr 11 0,.ptr 0 0]] (mb (T1 k p) k m) 12 (.tuple [.agg [.p (.int .i64 c),.p (.int .i64 d),.p (.slice true []),.p (.str a)],.p (.bool true)]) (mb (T1 k p) k b) 12:=by
 have h:=KB k p m (Og k p) rfl (f _ _ m (Og k p) g);rw[e]at h;exact Dj h (wM (L:=[]) (NZ k p) k b _ rfl true _ _ rfl rfl)
end
abbrev oL:Ef:=⟨2,1009,true,[],true,[],true,[],true,[],E,0⟩
def FQ:PS tb 83 [] (.agg (od oL)):=by
 refine bM (af:=YX) rfl rfl ?_;unfold YX;dsimp only[List.map,aQ,aj];refine gN trivial (k1 ?_);all_goals rfl
def Mu(p:Pc)(n:Bool)(args:List bX)(o:Bool)(s:List Pr)(f:Ft)(r:Fc f)(g j:Int)(v:Bool)(c:PS tb 81 [.agg (cq p)] (.int .i64 g))(a:g=0->PS tb 80 [.agg (cq p),.slice n (bF args)] (.int .i64 j))(q:PS tb 54 [.slice o (bm s)] (.bool v))
  (h:¬(g=0/\j=0/\v=true/\kl f=true)):PS tb 47 [.agg (cq p),.slice n (bF args),.slice o (bm s),.agg (rH f)] (.agg (od oL)):=by
 refine bM (af:=Vb) rfl rfl ?_;unfold Vb;dsimp only[List.map,aQ,aj,cq,rH];have d:=FQ;have l:=wi f r;dsimp only[cq,rH,od]at c a l d;by_cases b:g=0
 .have a:=a b;by_cases i:j=0
  .cases v with
   |false=>
    refine gP (bf b i) (eY c a q d) (k1 ?_);all_goals rfl
   |true=>
    have t:kl f=false:=by
     cases e:kl f with
     |false=>rfl
     |true=>exact absurd ⟨b,i,rfl,e⟩ h
    rw[t]at l;refine gP (bf b i) (dM c a q l d) (k1 ?_);all_goals rfl
  .refine gP (bf b i) (c9 c a d) (k1 ?_);all_goals rfl
 .refine gP b (bf c d) (k1 ?_);all_goals rfl
end
section
open Go Go.Dv
abbrev EK(a:Bool)(s:List Pr)(f:Ft):Kc:=⟨a,s,f.all,f.br,f.r,f.bw,f.w⟩
def U3(l:List bX):(bF l).take l.length=bF l:=List.take_of_length_le (by rw[cv];omega)
def GF(l:List ByteArray):(aA l).take l.length=aA l:=List.take_of_length_le (by rw[aE];omega)
def TL(m:MS)(l:List ByteArray):(bm (Hw m l)).take l.length=bm (Hw m l):=List.take_of_length_le (by rw[wL];omega)
def Mt(p:Pc)(J:Bool)(args:List bX)(d:Bool)(s:List Pr)(f:Ft)(hF:Fc f)(R:PS tb 81 [.agg (cq p)] (.int .i64 0))(S:PS tb 80 [.agg (cq p),.slice J (bF args)] (.int .i64 0))(hv:PS tb 54 [.slice d (bm s)] (.bool true))
  (hf:kl f=true)(x6:p.ps.length<=1048576)(T:args.length=p.ps.length)(K:∀v∈args,cQ v)(hg:∀a,cQ (cX s a))(M:cD p.body)(F:RN (EK d s f) p):PS tb 47 [.agg (cq p),.slice J (bF args),.slice d (bm s),.agg (rH f)] (.agg (od (dS (bN (EK d s f).cz p.body (fE p.ps args jI))))):=by
 refine bM (af:=Vb) rfl rfl ?_;unfold Vb;dsimp only[List.map,aQ,aj,cq,rH];have G:=wi f hF;rw[hf]at G;have l:∀a,cQ ((EK d s f).cz.g a):=hg;generalize h:EK d s f=k at F l⊢;have g:=λb0 b1 b2=>Vn k b0 b1 b2
 have U:k.sb=d:=by rw[<-h]
 have V:k.st=s:=by rw[<-h]
 have W:k.all=f.all:=by rw[<-h]
 have X:k.rb=f.br:=by rw[<-h]
 have Y:k.rd=f.r:=by rw[<-h]
 have Z:k.wb=f.bw:=by rw[<-h]
 have e7:k.wr=f.w:=by rw[<-h]
 rw[U,V,W,X,Y,Z,e7]at g;dsimp only[cq,rH]at R S G;refine gR @b6 (eY R S hv G) (λ{w z2 z3}=>g w z2 z3) (k1 ?_);clear g U V W X Y Z e7;subst h;refine bU (λj H=>∃i:Nat,i+j=p.ps.length/\H=⟨[(1,.p (.slice J (bF args))),(4,.ptr 0 0),(8,.ptr 2 0),(9,.ptr 11 0),(36,.p (.slice p.fp (e9 p.ps))),(37,.p (.int .i64 p.ps.length)),(38,.p (.int .i64 i))],mb (T1 (EK d s f) p) (EK d s f) (fE (p.ps.take i) args jI),12,[0]⟩) ?_ p.ps.length _ ⟨0,ae,rfl⟩;rintro j H ⟨i,G,rfl⟩;generalize EK d s f=k at F l⊢;have n:=NZ k p;have o:∀m,ah (mb (T1 k p) k m) 11=some (.var false [.ptr 7 0]):=λ_=>rfl
 have m2:∀m,ah (mb (T1 k p) k m) 2=some (.var false [.p (.int .i64 0),.p (.int .i64 0),.p (.slice true []),.p (.slice true []),.p (.slice true []),.p (.slice true []),.p (.str ⟨#[]⟩),.p (.int .i64 0)]):=λ_=>rfl
 have mt:∀m,tG (mb (T1 k p) k m)=12:=λ_=>rfl
 have q:∀m,az 12 (mb (T1 k p) k m)=mb (T1 k p) k m:=λm=>(n.lz k m).ba 12 (Nat.le_refl _)
 have y:∀m b,ah (aH (mb (T1 k p) k m) 2 b) 2=some b:=λ_ _=>rfl
 have z:∀m b,ah (aH (mb (T1 k p) k m) 2 b) 8=some (.row false 3 (bF m.out)):=λ_ _=>rfl
 have A:∀m b,ah (aH (mb (T1 k p) k m) 2 b) 9=some (.row false 1 (aA m.reads)):=λ_ _=>rfl
 have B:∀m b,ah (aH (mb (T1 k p) k m) 2 b) 10=some (.row false 1 (aA m.cm)):=λ_ _=>rfl
 have r:∀m,cL 12 (mb (T1 k p) k m)=true:=λm=>(n.lz k m).al 12 (Nat.le_refl _)
 refine bq Nz.eq_1 ?_;rcases cK i p.ps.length with c|c
 .have I:(i:Int)<p.ps.length:=ae;have h2:(0:Int)<=i:=ae;have h3:=lT p.ps i c;have h4:=tF args i ae;have t:=Bn p.ps args jI i c ae;generalize fE (p.ps.take i) args jI=m at t⊢;have g:=n.n4 k m;have C:=n.n4 k (gk p.ps[i].name args[i] m);have N:aH (mb (T1 k p) k m) 5 (.map false (.strs (if(m.vars p.ps[i].name).isSome then m.vn else m.vn+1) (mX (l8 m.vars p.ps[i].name args[i]))))=mb (T1 k p) k (gk p.ps[i].name args[i] m):=rfl;have ei:(mX m.vars p.ps[i].name).isSome=(m.vars p.ps[i].name).isSome:=by simp[mX]
  refine gN (NV o mt q r g.a g.e I h2 h3 h4 @b6 @cv N ei @nC C.a C.e) (k1 ?_);exact LI.next (m':=j-1) ae ⟨i+1,ae,by rw[t]⟩
 .have I:¬(i:Int)<p.ps.length:=ae;have O:p.ps.take i=p.ps:=List.take_of_length_le c;rw[O];have t:=wN p.ps args jI B4 K;generalize fE p.ps args jI=m at t⊢;have g:=n.n4 k m;cases e:bN k.cz p.body m with
  |ok u D=>
   have P:=λQ=>LL F t e (a0:=Q)
   have hp:=mf k.cz l p.body M m t;rw[e]at hp;have E:=vh (L:=[]) (x:=0) n k D hp.2;simp only[List.nil_append,Nat.zero_add,CY]at E;refine gR (j0 o m2 mt q r g.a I y z A B) trivial (bf (λ{w}=>P w) E) (k1 ?_);rw[cv,aE,aE,wL];simp[dS,od,U3,GF];exact TL D D.cm
  |no H cd a D=>
   have P:=λQ=>M7 F t e (a0:=Q)
   have E:=vt (L:=[]) (x:=0) n k D H cd a;simp only[List.nil_append,Nat.zero_add,CY]at E;refine gR (j0 o m2 mt q r g.a I y z A B) trivial (bf (λ{w}=>P w) E) (k1 ?_);rw[aE,aE];simp[dS,od,GF,bF,bm]
end
section
open Go Go.Dv
abbrev Gf:=ByteArray->bX
def wk(ok:List Pr->Bool)(e:Ef)(k:ByteArray):Prop:=e.st=1/\ok e.writes=true/\∃p∈e.writes,p.key=k
def pY(a:List Pr)(g:Gf):Gf:=λk=>match a.find? λp=>decide (p.key=k)with
 |some p=>p.v
 |none=>g k
def tZ(ok:List Pr->Bool)(e:Ef)(g:Gf):Gf:=if e.st=1/\ok e.writes=true then pY e.writes g else g
def JK{a:List Pr}{g:Gf}{k:ByteArray}(h:¬∃p∈a,p.key=k):pY a g k=g k:=by
 unfold pY;have:a.find? (λp=>decide (p.key=k))=none:=by
  rw[List.find?_eq_none];intro p b;simp only[cp];exact λe=>h ⟨p,b,e⟩
 rw[this]
def Po{a:List Pr}{g b:Gf}{k:ByteArray}(h:∃p∈a,p.key=k):pY a g k=pY a b k:=by
 unfold pY;have:(a.find? (λp=>decide (p.key=k))).isSome=true:=by
  rw[List.find?_isSome];obtain⟨p,c,e⟩:=h;exact⟨p,c,by simp[e]⟩
 cases e:a.find? (λp=>decide (p.key=k))with
 |none=>rw[e]at this;cases this
 |some p=>rfl
section
variable{ok:List Pr->Bool}
def tv{e:Ef}{g:Gf}{k:ByteArray}(h:¬wk ok e k):tZ ok e g k=g k:=by
 unfold tZ;split
 .rename_i a;exact JK λb=>h ⟨a.1,a.2,b⟩
 .rfl
def PR{e:Ef}{g a:Gf}{k:ByteArray}(h:wk ok e k):tZ ok e g k=tZ ok e a k:=by
 unfold tZ;rw[aq ⟨h.1,h.2.1⟩,aq ⟨h.1,h.2.1⟩];exact Po h.2.2
def UZ{e:Ef}{g b:Gf}{k:ByteArray}(h:g k=b k):tZ ok e g k=tZ ok e b k:=by
 by_cases a:wk ok e k
 .exact PR a
 .rw[tv a,tv a,h]
def EJ(ok:List Pr->Bool)(es:Nat->Ef)(D:Nat->Bool)(g:Gf):Nat->Gf
 |0=>g
 |n+1=>if D n then tZ ok (es n) (EJ ok es D g n)else EJ ok es D g n
abbrev Ser(ok:List Pr->Bool)(es:Nat->Ef)(g:Gf):Nat->Gf:=EJ ok es (λ_=>true) g
variable{es:Nat->Ef}{D:Nat->Bool}{g:Gf}
def JE{k:ByteArray}:∀{n:Nat},(∀i,i<n->D i=false->¬wk ok (es i) k)->EJ ok es D g n k=Ser ok es g n k
 |0,_=>rfl
 |n+1,h=>by
  have a:=JE (n:=n) λi c=>h i ae
  simp only[EJ,bZ];cases b:D n with
  |true=>simp only[bZ];exact UZ a
  |false=>
   rw[tv (h n ae b)];simpa using a
def KY{k:ByteArray}{j:Nat}:∀{n:Nat},j<=n->(∀i,j<=i->i<n->D i=true->¬wk ok (es i) k)->EJ ok es D g n k=EJ ok es D g j k
 |0,b,_=>by
  obtain rfl:j=0:=ae;rfl
 |n+1,b,h=>by
  rcases cK j (n+1)with c|c
  .have a:=KY (n:=n) ae λi d f=>h i d ae
   simp only[EJ];cases e:D n with
   |true=>simp only[bZ];rw[tv (h n ae ae e)];exact a
   |false=>simpa using a
  .obtain rfl:j=n+1:=ae;rfl
end
structure CB(ok:List Pr->Bool) where
 run:Nat->Gf->Ef
 all:Nat->Bool
 rd:Nat->List ByteArray
 wr:Nat->List ByteArray
 fr:∀i g g',(∀k∈(run i g).reads,g' k=g k)->run i g'=run i g
 rs:∀i g,all i=false->∀k∈(run i g).reads,k∈rd i
 ws:∀i g k,all i=false->wk ok (run i g) k->k∈wr i
section
variable{ok:List Pr->Bool}(t:CB ok)(g:Gf)
def CB.st:Nat->Gf
 |0=>g
 |n+1=>tZ ok (t.run n (CB.st n)) (CB.st n)
def CB.ef(i:Nat):Ef:=t.run i (t.st g i)
def CB.Om:∀n,t.st g n=Ser ok (t.ef g) g n
 |0=>rfl
 |n+1=>by
  simp only[CB.st,EJ,bZ,CB.ef];rw[CB.Om n]
def CB.same{D:Nat->Bool}{j n:Nat}(e:j<=n)(f:∀i,i<j->D i=false->∀k∈(t.ef g j).reads,¬wk ok (t.ef g i) k)(h:∀i,j<=i->i<n->D i=true->∀k∈(t.ef g j).reads,¬wk ok (t.ef g i) k):
  t.run j (EJ ok (t.ef g) D g n)=t.ef g j:=by
 refine t.fr j (t.st g j) _ λk d=>?_
 rw[KY e (λi a b c=>h i a b c k d),JE (λi a b=>f i a b k d),t.Om]
end
end
section
open Go Go.Dv
def mL(l:List Pr):Prop:=l.Pairwise λa b=>slt a.key b.key=true
def zQ(l:List Pr):Prop:=(∀p∈l,lG p.key=true/\me p.v=true)/\mL l
def sP(p:Pr):Bool:=decide (p.v.k=0)
def Ol(l:List Pr):Prop:=zQ l/\∀p∈l,sP p=false
def one(p:Pr):List Pr:=if sP p then[]else[p]
def dm:List Pr->List Pr->List Pr
 |[],c=>c.flatMap one
 |a::l,[]=>a::l
 |a::l,b::c=>
  if slt a.key b.key then a::dm l (b::c)
  else if slt b.key a.key then one b++dm (a::l) c
  else one b++dm l c
termination_by l ws=>l.length+ws.length
def n5{p q:Pr}:p∈one q↔p=q/\sP q=false:=by
 unfold one;split
 .rename_i h;simp[h]
 .rename_i h;simp[h]
def gL{p:Pr}:∀{l d:List Pr},p∈dm l d->p∈l\/(p∈d/\sP p=false)
 |[],d,h=>by
  rw[dm,List.mem_flatMap]at h;obtain⟨q,e,f⟩:=h;obtain⟨rfl,c⟩:=n5.1 f;exact .inr ⟨e,c⟩
 |a::l,[],h=>by rw[dm]at h;exact .inl h
 |a::l,b::d,h=>by
  rw[dm]at h;split at h
  .rcases List.mem_cons.1 h with rfl|h
   .exact .inl aB
   .rcases gL h with h|h
    .exact .inl (List.mem_cons_of_mem _ h)
    .exact .inr h
  .split at h
   .rcases List.mem_append.1 h with h|h
    .obtain⟨rfl,c⟩:=n5.1 h;exact .inr ⟨aB,c⟩
    .rcases gL h with h|h
     .exact .inl h
     .exact .inr ⟨List.mem_cons_of_mem _ h.1,h.2⟩
   .rcases List.mem_append.1 h with h|h
    .obtain⟨rfl,c⟩:=n5.1 h;exact .inr ⟨aB,c⟩
    .rcases gL h with h|h
     .exact .inl (List.mem_cons_of_mem _ h)
     .exact .inr ⟨List.mem_cons_of_mem _ h.1,h.2⟩
termination_by l ws=>l.length+ws.length
def tH(p:Pr):mL (one p):=by
 unfold one;split
 .exact List.Pairwise.nil
 .exact List.pairwise_singleton _ _
def yC:∀{a:List Pr},mL a->mL (a.flatMap one)
 |[],_=>List.Pairwise.nil
 |b::a,h=>by
  rw[List.flatMap_cons];refine List.pairwise_append.2 ⟨tH b,yC (List.pairwise_cons.1 h).2,λp d q c=>?_⟩;obtain⟨rfl,_⟩:=n5.1 d;obtain⟨r,e,c⟩:=List.mem_flatMap.1 c;obtain⟨rfl,_⟩:=n5.1 c;exact(List.pairwise_cons.1 h).1 _ e
def mB:∀{l j:List Pr},mL l->mL j->mL (dm l j)
 |[],j,_,h=>by rw[dm];exact yC h
 |a::l,[],h,_=>by rw[dm];exact h
 |a::l,b::j,h,m=>by
  have g:=List.pairwise_cons.1 h;have i:=List.pairwise_cons.1 m;rw[dm];split
  .rename_i c;refine List.pairwise_cons.2 ⟨λp f=>?_,mB g.2 m⟩;rcases gL f with f|⟨f,_⟩
   .exact g.1 p f
   .rcases List.mem_cons.1 f with rfl|f
    .exact c
    .exact jT c (i.1 p f)
  .rename_i c;split
   .rename_i k;refine List.pairwise_append.2 ⟨tH b,mB h i.2,λp f q d=>?_⟩;obtain⟨rfl,_⟩:=n5.1 f;rcases gL d with d|⟨d,_⟩
    .rcases List.mem_cons.1 d with rfl|d
     .exact k
     .exact jT k (g.1 q d)
    .exact i.1 q d
   .rename_i k;have e:a.key=b.key:=mR (by simpa using c) (by simpa using k);refine List.pairwise_append.2 ⟨tH b,mB g.2 i.2,λp f q d=>?_⟩;obtain⟨rfl,_⟩:=n5.1 f;rcases gL d with d|⟨d,_⟩
    .rw[<-e];exact g.1 q d
    .exact i.1 q d
termination_by l ws=>l.length+ws.length
def Mv{l b:List Pr}(h:Ol l)(c:zQ b):Ol (dm l b):=by
 refine⟨⟨λp a=>?_,mB h.1.2 c.2⟩,λp a=>?_⟩
 .rcases gL a with a|⟨a,_⟩
  .exact h.1.1 p a
  .exact c.1 p a
 .rcases gL a with a|⟨a,d⟩
  .exact h.2 p a
  .exact d
def VI{v:bX}(h:me v=true)(a:v.k=0):v=V0:=by
 unfold me at h;obtain⟨k,n,s⟩:=v;simp only at a;subst a;simp at h;rw[h.1,h.2]
def Ui{l:List Pr}{k:ByteArray}(h:∀p∈l,p.key≠k):cX l k=V0:=by
 unfold cX;have:l.find? (λp=>decide (p.key=k))=none:=by
  rw[List.find?_eq_none];intro p a;simpa using h p a
 rw[this]
def px{a:Pr}{l:List Pr}(k:ByteArray):cX (a::l) k=if a.key=k then a.v else cX l k:=by
 unfold cX;rw[List.find?_cons];by_cases h:a.key=k<;>simp[h]
def wo{b:Pr}{a:List Pr}{g:Gf}(k:ByteArray):pY (b::a) g k=if b.key=k then b.v else pY a g k:=by
 unfold pY;rw[List.find?_cons];by_cases h:b.key=k<;>simp[h]
def Aw{b:Pr}(d:me b.v=true){r:List Pr}(k:ByteArray)(e:∀q∈r,q.key≠b.key):cX (one b++r) k=if b.key=k then b.v else cX r k:=by
 unfold one;by_cases a:sP b=true
 .rw[aq a,List.nil_append];by_cases c:b.key=k
  .rw[aq c,Ui (λq f=>by rw[<-c];exact e q f),VI d (by simpa[sP]using a)]
  .rw[an c]
 .rw[an a,List.singleton_append,px]
def oc:∀{l ws:List Pr},mL l->zQ ws->∀k,cX (dm l ws) k=pY ws (cX l) k
 |[],[],_,_,k=>by rw[dm];rfl
 |[],b::ws,h,g,k=>by
  have i:=List.pairwise_cons.1 g.2;have s:=oc (l:=[]) (ws:=ws) h ⟨λp j=>g.1 p (List.mem_cons_of_mem _ j),i.2⟩ k;rw[dm]at s;rw[dm,List.flatMap_cons,Aw (g.1 b aB).2 k,wo,s];intro q d;obtain⟨r,t,d⟩:=List.mem_flatMap.1 d;obtain⟨rfl,_⟩:=n5.1 d;exact(uN (i.1 _ t)).symm
 |a::l,[],h,g,k=>by rw[dm];rfl
 |a::l,b::ws,h,g,k=>by
  have n:=List.pairwise_cons.1 h;have i:=List.pairwise_cons.1 g.2;have m:zQ ws:=⟨λp j=>g.1 p (List.mem_cons_of_mem _ j),i.2⟩;rw[dm];split
  .rename_i c;rw[px,oc n.2 g k];have e:pY (b::ws) (cX (a::l)) k=if a.key=k then a.v else pY (b::ws) (cX l) k:=by
    by_cases f:a.key=k
    .rw[aq f,JK,px,aq f];rintro⟨p,j,e⟩;have:slt a.key p.key=true:=by
      rcases List.mem_cons.1 j with rfl|j
      .exact c
      .exact jT c (i.1 p j)
     exact uN this (by rw[f,e])
    .rw[an f];unfold pY;split
     .rfl
     .rw[px,an f]
   rw[e]
  .rename_i c;split
   .rename_i o;rw[Aw (g.1 b aB).2 k,wo,oc h m k];intro q d;have:slt b.key q.key=true:=by
     rcases gL d with d|⟨d,_⟩
     .rcases List.mem_cons.1 d with rfl|d
      .exact o
      .exact jT o (n.1 q d)
     .exact i.1 q d
    exact(uN this).symm
   .rename_i o;have e:a.key=b.key:=mR (by simpa using c) (by simpa using o);rw[Aw (g.1 b aB).2 k,wo,oc n.2 m k]
    .by_cases f:b.key=k
     .rw[aq f,aq f]
     .rw[an f,an f];unfold pY;split
      .rfl
      .rw[px,e,an f]
    intro q d;have:slt b.key q.key=true:=by
     rcases gL d with d|⟨d,_⟩
     .rw[<-e];exact n.1 q d
     .exact i.1 q d
    exact(uN this).symm
termination_by l ws=>l.length+ws.length
end
section
open Go Go.Dv
abbrev P0:Pr:=⟨E,V0⟩
def Iw(l:List Pr)(j:Nat):Bool:=lG (l.getD j P0).key&&(me (l.getD j P0).v&&(decide (j=0)||slt (l.getD (j-1) P0).key (l.getD j P0).key))
def kM(l:List Pr):Bool:=(List.range l.length).all (Iw l)
def ux(l:List Pr)(i:Nat)(h:i<l.length):l.getD i P0=l[i]:=by simp[List.getD_eq_getElem?_getD,h]
def OG{l:List Pr}(h:∀j,j<l.length->Iw l j=true):kM l=true:=by
 simp only[kM,List.all_eq_true,List.mem_range];exact h
def AE{l:List Pr}{i:Nat}(a:i<l.length)(h:Iw l i=false):kM l=false:=by
 rw[kM,List.all_eq_false];exact⟨i,List.mem_range.2 a,by simp[h]⟩
def Pj(l:List Pr):Prop:=∀p∈l,p.v.s.size<=1048576
def Bm(l:List Pr)(b:Bool)(w:l.length<=1099511627776)(q:Pj l):PS tb 55 [.slice b (bm l)] (.bool (kM l)):=by
 refine bM (af:=YP) rfl rfl ?_;unfold YP;dsimp only[List.map,aQ,aj];refine gN @bK (k1 ?_);refine bU (λj d=>∃i:Nat,i+j=l.length/\(∀j,j<i->Iw l j=true)/\d=⟨[(0,.p (.slice b (bm l))),(5,.p (.slice b (bm l))),(6,.p (.int .i64 l.length)),(7,.p (.int .i64 i))],[],0,[0]⟩) ?_ l.length _ ⟨0,ae,λj h=>ae,rfl⟩;rintro j d ⟨i,x,f,rfl⟩;refine bq NX.eq_1 ?_;rcases cK i l.length with c|c
 .have e:(i:Int)<l.length:=ae;have o:(0:Int)<=i:=ae;have p:=jS l i c;have r:=q _ (List.getElem_mem c);have a:Iw l i=(lG l[i].key&&(me l[i].v&&(decide (i=0)||slt (l.getD (i-1) P0).key l[i].key))):=by simp only[Iw];rw[ux l i c]
  have g:=CH l[i].v r;dsimp only[gB]at g;have s:∀{d:St},Iw l i=false->bE d.heap dep (.p (.bool false))=some (.bool (kM l)):=λh=>by rw[AE c h];rfl
  by_cases y:i=0
  .have k:¬(0:Int)<i:=ae;refine hP (dM e o @bK p k) (bf (λ{m}=>kD m) g) (k3 ?_ ?_ ?_)<;>(repeat with_reducible intro t)
   all_goals first
    |(rw[AE c (by rw[a];simp_all)];done)
    |(exact LI.next (m':=j-1) ae ⟨i+1,ae,tA f (by rw[a];simp_all),rfl⟩)
  .have k:(0:Int)<i:=ae;have u:(bm l)[i-1]?=some [.str (l.getD (i-1) P0).key,.int .i64 (l.getD (i-1) P0).v.k,.int .i64 (l.getD (i-1) P0).v.n,.str (l.getD (i-1) P0).v.s]:=by rw[jS l (i-1) ae,ux l (i-1) ae]
   have v:((i:Int)-1)=((i-1:Nat):Int):=ae;have n:(0:Int)<=((i-1:Nat):Int):=ae;refine hP (Gg e o @bK p k u v n) (bf (λ{m}=>kD m) g) (k4 ?_ ?_ ?_ ?_)<;>(repeat with_reducible intro t)
   all_goals first
    |(rw[AE c (by rw[a];simp_all)];done)
    |(exact LI.next (m':=j-1) ae ⟨i+1,ae,tA f (by rw[a];simp_all),rfl⟩)
 .have e:¬(i:Int)<l.length:=ae;refine gN e (k1 ?_);rw[OG λj z=>f j ae]
def Cv(p:Pr):PS tb 58 [.agg (uS p)] (.bool (sP p)):=by
 refine bM (af:=Yl) rfl rfl ?_;unfold Yl;dsimp only[List.map,aQ,aj,uS];refine gN trivial (k1 ?_);all_goals simp[sP]
def L8(l:List Pr)(b:Bool)(f:FuncId)(a:List PV)(q:Pr->Bool)(B:l.length<=1099511627776)(y:∀p∈l,PS tb f (.agg (uS p)::a) (.bool (q p)))(o:cl (bE [] 5) (a.map aQ)=some a:=by rfl):
  ∃n:Int,PS tb 122 [.slice b (bm l),.func f a] (.int .i64 n)/\decide (0<=n)=l.any q:=by
 have w:W tb Ik.body {env:=aj 0 ([PV.slice b (bm l),PV.func f a].map aQ),heap:=[],next:=0,marks:=[0]} (ic Ik.results λv s=>∃n:{n:Int//decide (0<=n)=l.any q},bE s.heap dep v=some (.int .i64 n.1)):=by
  unfold Ik;dsimp only[List.map,aQ,aj];refine gN @bK (k1 ?_);refine bU (λj r=>∃i:Nat,i+j=l.length/\(∀j,(h:j<i)->(C:j<l.length)->q l[j]=false)/\r=⟨[(0,.p (.slice b (bm l))),(1,.p (.func f a)),(7,.p (.int .i64 l.length)),(8,.p (.int .i64 i))],[],0,[0]⟩) ?_ l.length _ ⟨0,ae,λj h=>ae,rfl⟩;rintro j r ⟨i,D,t,rfl⟩;refine bq Ir.eq_1 ?_;rcases cK i l.length with c|c
  .have g:(i:Int)<l.length:=ae;have u:(0:Int)<=i:=ae;have x:=jS l i c;have d:=y _ (List.getElem_mem c);dsimp only[uS]at d;cases e:q l[i]with
   |true=>
    rw[e]at d;refine gP (dM g u @bK x o) d (k1 ?_);exact⟨⟨i,by rw[List.any_eq_true.2 ⟨l[i],List.getElem_mem c,e⟩];simp⟩,rfl⟩
   |false=>
    rw[e]at d;refine gP (dM g u @bK x o) d (k1 ?_);refine LI.next (m':=j-1) ae ⟨i+1,ae,λj k m=>?_,rfl⟩;rcases RG.1 k with h|rfl
    .exact t j h m
    .exact e
  .have g:¬(i:Int)<l.length:=ae;refine gN g (k1 ?_);refine⟨⟨-1,?_⟩,rfl⟩;have:l.any q=false:=by
    rw[List.any_eq_false];intro p z;obtain⟨j,k,rfl⟩:=List.mem_iff_getElem.1 z;rw[t j ae k];simp
   rw[this];rfl
 obtain⟨⟨n,A⟩,h⟩:=nq (T:=tb) (f:=122) (af:=Ik) rfl rfl w;exact⟨n,h,A⟩
end
end Go.Dv.Tryz
