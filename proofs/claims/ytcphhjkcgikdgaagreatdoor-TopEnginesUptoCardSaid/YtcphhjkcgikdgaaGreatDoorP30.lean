/- Lemmas for the law of this claim. -/
import Derived.Test.YtcphhjkcgikdgaaGreatDoorP26
import Derived.Test.YtcphhjkcgikdgaaGreatDoorP27
import Derived.Test.YtcphhjkcgikdgaaGreatDoorP24
import Derived.Test.YtcphhjkcgikdgaaGreatDoorP25
set_option linter.all false
set_option maxRecDepth 100000
set_option maxHeartbeats 8000000
namespace Go.Dv.Tryz
section
open Go Go.Dv
abbrev B0:MS:=⟨0,λ_=>none,0,λ_=>none,[],[],[],0⟩
def Wc(k:Kc)(a b c:bq):BS tb 84 [.p (.slice k.sb (aT k.st)),.agg [.p (.bool k.all),.p (.slice k.rb (aF k.rd)),.p (.slice k.wb (aF k.wr))]] [(2,c),(1,b),(0,a)] 3 (.ptr 6 0)
  ((9,.row false 1 [])::(8,.row false 1 [])::(7,.row false 3 [])::(6,.var false (tB k B0))::(5,.map false (.strs 0 (λ_=>none)))::(4,.map false (.strs 0 (λ_=>none)))::(3,.var false [.p (.bool k.all),.p (.slice k.rb (aF k.rd)),.p (.slice k.wb (aF k.wr))])::[(2,c),(1,b),(0,a)]) 10:=by
 refine wO (af:=ZO) rfl rfl ?_;unfold ZO;dsimp only[ai];refine gN eW (k1 ?_);all_goals simp[tB]
abbrev zR:List PV:=[.int .i64 0,.int .i64 0,.slice true [],.str ⟨#[]⟩]
section
variable{f:FuncId}{caps:List DV}{H:Heap}{nx:Nat}{a0 r:DV}{H':Heap}{nx':Nat}
def M8{v:DV}{a:Heap}{b:Nat}(h:BS tb f caps (rE zR H nx) (nx+2) v a b)(c:qR zR zR false a nx=some (r,H',nx')):BS tb 86 [a0,.func f caps] H nx r H' nx':=by
 obtain⟨n,d⟩:=h;refine⟨n+1,?_⟩;rw[dQ];have e:tb.A 86=some Re:=rfl;simp only[e];unfold jH Re;simp only[ik,lH,sn,d,c]
def M5{a:List PV}{b:Heap}(h:DS tb f caps (rE zR H nx) (nx+2) (.iface 153 (.agg a)) b)(d:qR zR a true b nx=some (r,H',nx')):BS tb 86 [a0,.func f caps] H nx r H' nx':=by
 obtain⟨n,c⟩:=h;refine⟨n+1,?_⟩;rw[dQ];have e:tb.A 86=some Re:=rfl;simp only[e];unfold jH Re;have g:=jn tb.A tb.X n _ _ _ _ _ c;simp only[ik,lH,sn,g,c,d,cQ]
end
def LN{T:Heap}(h:je [] T 11)(k:Kc)(m:MS)(a:List PV)(i:a.length=4)(t:Bool)(b:List DV)(c:List DV)(j:b.length=4)(d:c.length=1):
  qR zR a t ((12,.var false c)::(11,.var false b)::mb T k m) 11=some (.tuple [.agg (a.map .p),.p (.bool t)],mb T k m,11):=by
 have g:=(h.ml k m).ba 11 (Nat.le_refl _);have e:=(h.ml k m).al 11 (Nat.le_refl _);rw[<-mT]at e;simp only[List.nil_append]at g e;have l:aD 11 ((12,.var false c)::(11,.var false b)::mb T k m)=mb T k m:=by
  rw[aD,ak ae,aD,ak ae,g]
 unfold qR;rw[l];simp[ag,j,d,i,e]
end
section
open Go Go.Dv
def HQ(m:MS)(l:List ByteArray):List Pr:=l.map λk=>⟨k,(m.own k).getD V0⟩
def QB(m:MS)(l:List ByteArray)(i:Nat)(h:i<l.length){v:dY}(e:m.own l[i]=some v):aT (HQ m (l.take i))++[[.str l[i],.int .i64 v.k,.int .i64 v.n,.str v.s]]=aT (HQ m (l.take (i+1))):=by
 rw[List.take_succ_eq_append_getElem h];simp only[HQ,aT,List.map_append,List.map_cons,List.map_nil,wM,e,ka]
def Eg(m:MS)(l:List ByteArray):(aT (HQ m l)).length=l.length:=by simp[aT,HQ]
def Lw(a b c d:PV):bT 4 [[a,b,c,d]]=true:=rfl
abbrev NU(c a:Int)(o:DV)(m:MS)(n:Nat)(b:ByteArray):List DV:=[.p (.int .i64 c),.p (.int .i64 a),o,.ref 8 m.reads.length 0 m.reads.length,.ref 9 m.dm.length 0 m.dm.length,.ref 14 n 0 n,.p (.str b),.p (.int .i64 m.steps)]
section
variable{T:Heap}
def IJ{i:Nat}:∀{H:Heap},ag H i=none->jJ H i=H
 |[],_=>rfl
 |(k,b)::r,h=>by
   rw[aw]at h;by_cases e:k=i
   .rw[aq e]at h;cases h
   .rw[ak e]at h;have a:=IJ h;simp only[jJ,List.filter_cons]at a⊢;simp[e,a]
structure N4(T:Heap)(k:Kc)(m:MS):Prop where
 a:ag (mb T k m) 11=none
 b:ag (mb T k m) 12=none
 c:ag (mb T k m) 13=none
 d:ag (mb T k m) 14=none
 e:jJ (mb T k m) 11=mb T k m
def je.n4(h:je [] T 11)(k:Kc)(m:MS):N4 T k m:=⟨(h.ml k m).no 11 ae,(h.ml k m).no 12 ae,(h.ml k m).no 13 ae,(h.ml k m).no 14 ae,IJ ((h.ml k m).no 11 ae)⟩
def E8(h:je [] T 11)(k:Kc)(m:MS)(b:pN m):BS tb 85 [.ptr 6 0,.agg [.p (.int .i64 0),.p (.int .i64 0),.p (.slice true []),.p (.str ⟨#[]⟩)],.p (.bool false)] (mb T k m) 11
  (.agg (NU 1 0 (.ref 7 m.out.length 0 m.out.length) m m.dm.length E)) ((14,.row false 4 (aT (HQ m m.dm)))::(13,.var false (NU 1 0 (.ref 7 m.out.length 0 m.out.length) m m.dm.length E))::(12,.var false (NU 1 0 (.ref 7 m.out.length 0 m.out.length) m m.dm.length E))::mb T k m) 15:=by
 refine wO (af:=a85) rfl rfl ?_;unfold a85;dsimp only[ai];have a:=h.n4 k m
 (try simp(disch:=omega) only[go_sem,seval,reduceCtorEq,List.set_cons_succ,List.set_cons_zero,a.a,a.b,a.c,a.d,a.e,E,au])
 refine bL (λj s=>∃i:Nat,i+j=m.dm.length/\s=⟨[(0,.ptr 6 0),(6,.ptr 12 0),(7,.ptr 13 0),(25,.ref 9 m.dm.length 0 m.dm.length),(26,.p (.int .i64 m.dm.length)),(27,.p (.int .i64 i))],
   (14,.row false 4 (aT (HQ m (m.dm.take i))))::(13,.var false (NU 1 0 (.ref 7 m.out.length 0 m.out.length) m i ⟨#[]⟩))::(12,.var false [.p (.int .i64 0),.p (.int .i64 0),.p (.slice true []),.p (.slice true []),.p (.slice true []),.p (.slice true []),.p (.str ⟨#[]⟩),.p (.int .i64 0)])::mb T k m,15,[11]⟩) ?_ m.dm.length _ ⟨0,ae,rfl⟩
 rintro j s ⟨i,w,rfl⟩;refine aH OP.eq_1 ?_;rcases bS i m.dm.length with c|c
 .have d:(i:Int)<m.dm.length:=ae;have l:(0:Int)<=i:=ae;have n:=dN m.dm i c;have e:=b.po _ (List.getElem_mem c);have o:=b.pl;have p:=b.s1;obtain⟨v,f⟩:=sG.1 e;have q:=CY f;have r:=QB m m.dm i c f;have g:=Eg m (m.dm.take i);rw[List.length_take,Aw ae]at g;have t:(i+1)*48<=an:=by simp only[an];omega
  have u:i+1<=an:=by simp only[an];omega
  refine gN (DF eW a.a a.b a.c a.d a.e @au d l n q r g t u @Lw) (k1 ?_);exact LI.next (m':=j-1) ae ⟨i+1,ae,rfl⟩
 .have d:¬(i:Int)<m.dm.length:=ae;obtain rfl:i=m.dm.length:=ae;refine gN (qF eW a.a a.b a.c a.d a.e d) (k1 ?_);rw[List.take_length]
def ER(h:je [] T 11)(k:Kc)(m:MS)(c a:Int)(b:ByteArray):BS tb 85 [.ptr 6 0,.agg [.p (.int .i64 c),.p (.int .i64 a),.p (.slice true []),.p (.str b)],.p (.bool true)] (mb T k m) 11
  (.agg (NU c a (.p (.slice true [])) m 0 b)) ((14,.row false 4 [])::(13,.var false (NU c a (.p (.slice true [])) m 0 b))::(12,.var false (NU c a (.p (.slice true [])) m 0 b))::(11,.var false [.p (.int .i64 c),.p (.int .i64 a),.p (.slice true []),.p (.str b)])::mb T k m) 15:=by
 refine wO (af:=a85) rfl rfl ?_;unfold a85;dsimp only[ai];exact gN (dP eW (h.n4 k m).a (h.n4 k m).b (h.n4 k m).c (h.n4 k m).d) k0
end
end
section
open Go Go.Dv
def Xs(l:List ByteArray)(b:Bool)(n:Sh l)(K:Ex->St->Prop)(u:(∀j,j<l.length->qq l j=true)->K (.exit 0) ⟨[(0,.p (.slice b (aF l)))],[],0,[0]⟩)
  (o:∀i,i<l.length->qq l i=false->∀p,ag p.env 2=some (.p (.bool false))->K .ret p):∀(m i:Nat),i+m=l.length->(∀j,j<i->qq l j=true)->
  W tb rY ⟨[(0,.p (.slice b (aF l))),(5,.p (.slice b (aF l))),(6,.p (.int .i64 l.length)),(7,.p (.int .i64 i))],[],0,[0]⟩ (LK tb rY K):=by
 intro m;induction m with
 |zero=>
  intro i v d;have e:¬(i:Int)<l.length:=ae;refine aH rY.eq_1 ?_;refine gN (bA e @au) (k1 ?_);exact u (λj B=>d j ae)
 |succ m q=>
  intro i v d;have e:(i:Int)<l.length:=ae;have c:i<l.length:=ae;have r:(0:Int)<=i:=ae;have s:=dN l i c;have C:=n.size c;have w:0<i->(aF l)[i-1]?=some [.str (l.getD (i-1) E)]:=λh=>by rw[dN l (i-1) ae,bW l (i-1) ae]
  have t:=n.1;have a:qq l i=(lK l[i]&&(decide (i=0)||slt (l.getD (i-1) E) l[i])):=by simp only[qq];rw[bW l i c]
  have x:0<i->((i:Int)-1)=((i-1:Nat):Int):=λh=>ae
  by_cases D:i=0
  .have f:¬(0:Int)<i:=ae;refine aH rY.eq_1 ?_;refine hP (dP e r @au s f) (λ{g}=>fh g) (k2 ?_ ?_)<;>(repeat with_reducible intro y)
   all_goals first
    |exact o i c (by rw[a];simp_all) _ rfl
    |(refine fJ (aU ?_)
      refine ew ?_;exact q (i+1) ae (nC d (by rw[a];simp_all)))
  .have f:(0:Int)<i:=ae;have z:=w ae;have A:=x ae;have k:(0:Int)<=((i-1:Nat):Int):=ae;refine aH rY.eq_1 ?_;refine hP (xI e r @au s f z A k) (λ{g}=>fh g) (k3 ?_ ?_ ?_)<;>(repeat with_reducible intro y)
   all_goals first
    |exact o i c (by rw[a];simp_all) _ rfl
    |(refine fJ (aU ?_)
      refine ew ?_;exact q (i+1) ae (nC d (by rw[a];simp_all)))
def LJ(l:List ByteArray)(b:Bool)(c:Sh l):PS tb 115 [.slice b (aF l)] (.bool (tw l&&decide (l.length<=64))):=by
 refine bD (af:=Ss) rfl rfl ?_;unfold Ss;dsimp only[List.map,aI,ai];refine gN @au (k1 ?_);refine aU ?_;refine ew ?_;refine Xs l b c _ ?_ ?_ l.length 0 ae az
 .intro d
  (try simp(disch:=omega) only[go_sem,seval,reduceCtorEq,au])
  have e:decide ((l.length:Int)<=64)=decide (l.length<=64):=wD.2 ae;simp only[La d,aS,dep,e,Bool.true_and]
 .intro i f g h a
  (try simp(disch:=omega) only[go_sem,seval,reduceCtorEq,a])
  simp[Ko f g,aS,dep]
def Cr(f:Ft)(h:oO f):PS tb 82 [.agg (jZ f)] (.bool (dk f)):=by
 refine bD (af:=ZU) rfl rfl ?_;unfold ZU;dsimp only[List.map,aI,jZ,ai];have c:=h.1.1;have d:=h.2.1;cases a:f.all with
 |true=>
  refine hN @au (k2 ?_ ?_)<;>(repeat with_reducible intro b)
  all_goals simp only[aS,dep,ay,PV.bool.injEq,dk,a,cQ]
  .rw[jl (by omega:f.r.length=0),Bool.true_and];exact wD.2 ae
  .rw[lR (by omega:¬f.r.length=0),Bool.false_and]
 |false=>
  refine hP @au (bA (LJ f.r f.br h.1) (LJ f.w f.bw h.2)) (k2 ?_ ?_)<;>(repeat with_reducible intro b)
  all_goals simp only[aS,dep,ay,PV.bool.injEq,dk,a,Bool.false_eq_true,cK,b,Bool.true_and,Bool.false_and]
end
section
open Go Go.Dv
def jU:List Pm->List dY->MS->MS
 |p::a,v::b,m=>jU a b (lY p.name v m)
 |_,_,m=>m
def BN:∀(a:List Pm) (b:List dY) (m:MS) (i:Nat) (h:i<a.length) (c:i<b.length),jU (a.take (i+1)) b m=lY a[i].name b[i] (jU (a.take i) b m)
 |[],_,_,_,h,_=>by simp at h
 |_,[],_,_,_,h=>by simp at h
 |p::a,v::b,m,0,_,_=>by simp[jU]
 |p::a,v::b,m,i+1,h,c=>by
  simp only[List.take_succ_cons,jU,List.getElem_cons_succ];exact BN a b _ i (by simpa using h) (by simpa using c)
def CT{a p t:Int}:∀(c:List Pm) (b:List dY) (m:MS),MI a p t m->(∀v∈b,er v)->MI a p t (jU c b m)
 |[],_,_,h,_=>by simpa[jU]using h
 |_::_,[],_,h,_=>by simpa[jU]using h
 |p::c,v::b,m,h,d=>by
  rw[jU];exact CT c b _ (GW h p.name (d v az)) λw e=>d w (List.mem_cons_of_mem _ e)
def Sn:pN B0:=⟨List.Pairwise.nil,List.Pairwise.nil,az,az,az,az,az,az,az,az,az⟩
abbrev XM(p:Pc):bq:=.var false [.p (.str p.name),.p (.slice p.fp (im p.ps)),.p (.slice p.fb (cU p.body))]
abbrev ef0:List DV:=[.p (.int .i64 0),.p (.int .i64 0),.p (.slice true []),.p (.slice true []),.p (.slice true []),.p (.slice true []),.p (.str ⟨#[]⟩),.p (.int .i64 0)]
abbrev T1(k:Kc)(p:Pc):Heap:=[(3,.var false [.p (.bool k.all),.p (.slice k.rb (aF k.rd)),.p (.slice k.wb (aF k.wr))]),(2,.var false ef0),(0,XM p)]
def Oe(k:Kc)(p:Pc):je [] (T1 k p) 11 where
 ge:=Nat.le_refl _
 ba:=λ_ _=>rfl
 al:=λ_ _=>rfl
 no:=λ_ _=>rfl
 bt:=λc hc=>by
  have h3:3<c:=ae;have h2:2<c:=ae;have h0:0<c:=ae;simp[aD,h3,h2,h0]
 lt:=λc hc=>by simp[de,bq.below,below,dep]
 nt:=λc hc=>by
  have h3:¬3=c:=ae;have h2:¬2=c:=ae;have h0:¬0=c:=ae;simp[ag,h3,h2,h0]
section
variable{T L:Heap}{nx:Nat}
def IH(k:Kc)(p:Pc)(m:MS)(h:je L T nx)(f:ag T 0=some (XM p))(a:CS tb 88 [.ptr 6 0,.p (.slice p.fb (cU p.body))] (L++mb T k m) nx (cM L T k nx CQ (cJ k.cz p.body m))):
  CS tb 87 [.ptr 10 0,.ptr 0 0] (L++mb T k m) nx (cM L T k nx CQ (cJ k.cz p.body m)):=by
 obtain⟨x,rfl⟩:=h.ex;have c:=h.lf k;have d:∀m,ag (L++mb T k m) 0=some (XM p):=λm=>by rw[h.g _ 0 ae];simpa[mb,ag]using f
 have b:∀m,ag (L++mb T k m) 10=some (.var false [.ptr 6 0]):=λm=>by rw[h.g _ 10 ae];rfl
 cases e:cJ k.cz p.body m with
 |ok u g=>
  rw[e]at a;simp only[cM]at a⊢;refine hZ (af:=a87) rfl rfl ?_;unfold a87;dsimp only[ai];exact gR (dS c.q d b) trivial a k0
 |no j l i g=>
  rw[e]at a;simp only[cM]at a⊢;refine hZ (af:=a87) rfl rfl ?_;unfold a87;dsimp only[ai];exact gD (dS c.q d b) trivial trivial a k0
end
end
section
open Go Go.Dv
section
variable{k:Kc}{p:Pc}{m:MS}
def Ts(k:Kc)(p:Pc):Prop:=∀(L:Heap) (a:Nat) (m:MS),je L (T1 k p) a->pN m->CS tb 88 [.ptr 6 0,.p (.slice p.fb (cU p.body))] (L++mb (T1 k p) k m) a (cM L (T1 k p) k a CQ (cJ k.cz p.body m))
def Ou(k:Kc)(p:Pc):je [(12,.var false [.p (.bool false)]),(11,.var false (zR.map .p))] (T1 k p) 13:=((Oe k p).cons (b:=.var false (zR.map .p))).cons (b:=.var false [.p (.bool false)])
def MZ(b:Ts k p)(c:pN m){a:MS}{u:Unit}(e:cJ k.cz p.body m=.ok u a){a0:DV}:BS tb 86 [a0,.func 87 [.ptr 10 0,.ptr 0 0]] (mb (T1 k p) k m) 11 (.tuple [.agg [.p (.int .i64 0),.p (.int .i64 0),.p (.slice true []),.p (.str ⟨#[]⟩)],.p (.bool false)]) (mb (T1 k p) k a) 11:=by
 have h:=IH k p m (Ou k p) rfl (b _ _ m (Ou k p) c);rw[e]at h;exact M8 h (LN (Oe k p) k a zR rfl false _ _ rfl rfl)
def Ny(f:Ts k p)(g:pN m){b:MS}{c d:Int}{a:ByteArray}(e:cJ k.cz p.body m=.no c d a b){a0:DV}:BS tb 86 [a0,.func 87 [.ptr 10 0,.ptr 0 0]] (mb (T1 k p) k m) 11 (.tuple [.agg [.p (.int .i64 c),.p (.int .i64 d),.p (.slice true []),.p (.str a)],.p (.bool true)]) (mb (T1 k p) k b) 11:=by
 have h:=IH k p m (Ou k p) rfl (f _ _ m (Ou k p) g);rw[e]at h;exact M5 h (LN (Oe k p) k b _ rfl true _ _ rfl rfl)
end
abbrev oE:Ef:=⟨2,1009,true,[],true,[],true,[],true,[],E,0⟩
def PA:PS tb 83 [] (.agg (iP oE)):=by
 refine bD (af:=X0) rfl rfl ?_;unfold X0;dsimp only[List.map,aI,ai];refine gN trivial (k1 ?_);all_goals rfl
def Mf(p:Pc)(n:Bool)(args:List dY)(o:Bool)(s:List Pr)(f:Ft)(r:oO f)(g j:Int)(v:Bool)(c:PS tb 81 [.agg (eV p)] (.int .i64 g))(a:g=0->PS tb 80 [.agg (eV p),.slice n (cy args)] (.int .i64 j))(q:PS tb 54 [.slice o (aT s)] (.bool v))
  (h:¬(g=0/\j=0/\v=true/\dk f=true)):PS tb 47 [.agg (eV p),.slice n (cy args),.slice o (aT s),.agg (jZ f)] (.agg (iP oE)):=by
 refine bD (af:=TG) rfl rfl ?_;unfold TG;dsimp only[List.map,aI,ai,eV,jZ];have d:=PA;have l:=Cr f r;dsimp only[eV,jZ,iP]at c a l d;by_cases b:g=0
 .have a:=a b;by_cases i:j=0
  .cases v with
   |false=>
    refine gP (bA b i) (fW c a q d) (k1 ?_);all_goals rfl
   |true=>
    have t:dk f=false:=by
     cases e:dk f with
     |false=>rfl
     |true=>exact absurd ⟨b,i,rfl,e⟩ h
    rw[t]at l;refine gP (bA b i) (dP c a q l d) (k1 ?_);all_goals rfl
  .refine gP (bA b i) (dS c a d) (k1 ?_);all_goals rfl
 .refine gP b (bA c d) (k1 ?_);all_goals rfl
end
section
open Go Go.Dv
abbrev EV(a:Bool)(s:List Pr)(f:Ft):Kc:=⟨a,s,f.all,f.br,f.r,f.bw,f.w⟩
def Yw(l:List dY):(cy l).take l.length=cy l:=List.take_of_length_le (by rw[b7];omega)
def TB(l:List ByteArray):(aF l).take l.length=aF l:=List.take_of_length_le (by rw[au];omega)
def YX(m:MS)(l:List ByteArray):(aT (HQ m l)).take l.length=aT (HQ m l):=List.take_of_length_le (by rw[Eg];omega)
def Mw(p:Pc)(H:Bool)(args:List dY)(d:Bool)(s:List Pr)(f:Ft)(hF:oO f)(P:PS tb 81 [.agg (eV p)] (.int .i64 0))(Q:PS tb 80 [.agg (eV p),.slice H (cy args)] (.int .i64 0))(hv:PS tb 54 [.slice d (aT s)] (.bool true))
  (hf:dk f=true)(x4:p.ps.length<=1048576)(R:args.length=p.ps.length)(I:∀v∈args,er v)(hg:∀a,er (cD s a))(J:dU p.body)(D:Ts (EV d s f) p):PS tb 47 [.agg (eV p),.slice H (cy args),.slice d (aT s),.agg (jZ f)] (.agg (iP (jh (cJ (EV d s f).cz p.body (jU p.ps args B0))))):=by
 refine bD (af:=TG) rfl rfl ?_;unfold TG;dsimp only[List.map,aI,ai,eV,jZ];have E:=Cr f hF;rw[hf]at E;have l:∀a,er ((EV d s f).cz.g a):=hg;generalize h:EV d s f=k at D l⊢;have g:=λb0 b1 b2=>Wc k b0 b1 b2
 have S:k.sb=d:=by rw[<-h]
 have T:k.st=s:=by rw[<-h]
 have U:k.all=f.all:=by rw[<-h]
 have V:k.rb=f.br:=by rw[<-h]
 have W:k.rd=f.r:=by rw[<-h]
 have X:k.wb=f.bw:=by rw[<-h]
 have Y:k.wr=f.w:=by rw[<-h]
 rw[S,T,U,V,W,X,Y]at g;dsimp only[eV,jZ]at P Q E;refine gR @cN (fW P Q hv E) (λ{w z2 z3}=>g w z2 z3) (k1 ?_);clear g S T U V W X Y;subst h;refine bL (λj F=>∃i:Nat,i+j=p.ps.length/\F=⟨[(1,.p (.slice H (cy args))),(4,.ptr 0 0),(8,.ptr 2 0),(9,.ptr 10 0),(36,.p (.slice p.fp (im p.ps))),(37,.p (.int .i64 p.ps.length)),(38,.p (.int .i64 i))],mb (T1 (EV d s f) p) (EV d s f) (jU (p.ps.take i) args B0),11,[0]⟩) ?_ p.ps.length _ ⟨0,ae,rfl⟩;rintro j F ⟨i,E,rfl⟩;generalize EV d s f=k at D l⊢;have n:=Oe k p;have o:∀m,ag (mb (T1 k p) k m) 10=some (.var false [.ptr 6 0]):=λ_=>rfl
 have Z:∀m,ag (mb (T1 k p) k m) 2=some (.var false [.p (.int .i64 0),.p (.int .i64 0),.p (.slice true []),.p (.slice true []),.p (.slice true []),.p (.slice true []),.p (.str ⟨#[]⟩),.p (.int .i64 0)]):=λ_=>rfl
 have mt:∀m,nb (mb (T1 k p) k m)=11:=λ_=>rfl
 have q:∀m,aD 11 (mb (T1 k p) k m)=mb (T1 k p) k m:=λm=>(n.ml k m).ba 11 (Nat.le_refl _)
 have x:∀m b,ag (aC (mb (T1 k p) k m) 2 b) 2=some b:=λ_ _=>rfl
 have y:∀m b,ag (aC (mb (T1 k p) k m) 2 b) 7=some (.row false 3 (cy m.out)):=λ_ _=>rfl
 have z:∀m b,ag (aC (mb (T1 k p) k m) 2 b) 8=some (.row false 1 (aF m.reads)):=λ_ _=>rfl
 have A:∀m b,ag (aC (mb (T1 k p) k m) 2 b) 9=some (.row false 1 (aF m.dm)):=λ_ _=>rfl
 have r:∀m,de 11 (mb (T1 k p) k m)=true:=λm=>(n.ml k m).al 11 (Nat.le_refl _)
 refine aH OR.eq_1 ?_;rcases bS i p.ps.length with c|c
 .have G:(i:Int)<p.ps.length:=ae;have h2:(0:Int)<=i:=ae;have h3:=n8 p.ps i c;have h4:=uN args i ae;have t:=BN p.ps args B0 i c ae;generalize jU (p.ps.take i) args B0=m at t⊢;have g:=n.n4 k m;have B:=n.n4 k (lY p.ps[i].name args[i] m);have K:aC (mb (T1 k p) k m) 4 (.map false (.strs (if(m.vars p.ps[i].name).isSome then m.vn else m.vn+1) (nY (pP m.vars p.ps[i].name args[i]))))=mb (T1 k p) k (lY p.ps[i].name args[i] m):=rfl;have ei:(nY m.vars p.ps[i].name).isSome=(m.vars p.ps[i].name).isSome:=by simp[nY]
  refine gN (tD o mt q r g.a g.e G h2 h3 h4 @cN @b7 K ei @pH B.a B.e) (k1 ?_);exact LI.next (m':=j-1) ae ⟨i+1,ae,by rw[t]⟩
 .have G:¬(i:Int)<p.ps.length:=ae;have L:p.ps.take i=p.ps:=List.take_of_length_le c;rw[L];have t:=CT p.ps args B0 Sn I;generalize jU p.ps args B0=m at t⊢;have g:=n.n4 k m;cases e:cJ k.cz p.body m with
  |ok u C=>
   have M:=λN=>MZ D t e (a0:=N)
   have hp:=ob k.cz l p.body J m t;rw[e]at hp;have O:=E8 n k C hp.2;refine gR (rL o Z mt q r g.a G x y z A) trivial (bA (λ{w}=>M w) O) (k1 ?_);rw[b7,au,au,Eg];simp[jh,iP,Yw,TB];exact YX C C.dm
  |no F cd a C=>
   have M:=λN=>Ny D t e (a0:=N)
   have O:=ER n k C F cd a;refine gR (rL o Z mt q r g.a G x y z A) trivial (bA (λ{w}=>M w) O) (k1 ?_);rw[au,au];simp[jh,iP,TB,cy,aT]
end
section
open Go Go.Dv
abbrev Gf:=ByteArray->dY
def wk(ok:List Pr->Bool)(e:Ef)(k:ByteArray):Prop:=e.st=1/\ok e.writes=true/\∃p∈e.writes,p.key=k
def q6(a:List Pr)(g:Gf):Gf:=λk=>match a.find? λp=>decide (p.key=k)with
 |some p=>p.v
 |none=>g k
def tz(ok:List Pr->Bool)(e:Ef)(g:Gf):Gf:=if e.st=1/\ok e.writes=true then q6 e.writes g else g
def K5{a:List Pr}{g:Gf}{k:ByteArray}(h:¬∃p∈a,p.key=k):q6 a g k=g k:=by
 unfold q6;have:a.find? (λp=>decide (p.key=k))=none:=by
  rw[List.find?_eq_none];intro p b;simp only[df];exact λe=>h ⟨p,b,e⟩
 rw[this]
def Qr{a:List Pr}{g b:Gf}{k:ByteArray}(h:∃p∈a,p.key=k):q6 a g k=q6 a b k:=by
 unfold q6;have:(a.find? (λp=>decide (p.key=k))).isSome=true:=by
  rw[List.find?_isSome];obtain⟨p,c,e⟩:=h;exact⟨p,c,by simp[e]⟩
 cases e:a.find? (λp=>decide (p.key=k))with
 |none=>rw[e]at this;cases this
 |some p=>rfl
section
variable{ok:List Pr->Bool}
def qg{e:Ef}{g:Gf}{k:ByteArray}(h:¬wk ok e k):tz ok e g k=g k:=by
 unfold tz;split
 .rename_i a;exact K5 λb=>h ⟨a.1,a.2,b⟩
 .rfl
def Fu{e:Ef}{g a:Gf}{k:ByteArray}(h:wk ok e k):tz ok e g k=tz ok e a k:=by
 unfold tz;rw[aq ⟨h.1,h.2.1⟩,aq ⟨h.1,h.2.1⟩];exact Qr h.2.2
def II{e:Ef}{g b:Gf}{k:ByteArray}(h:g k=b k):tz ok e g k=tz ok e b k:=by
 by_cases a:wk ok e k
 .exact Fu a
 .rw[qg a,qg a,h]
def pt(ok:List Pr->Bool)(es:Nat->Ef)(D:Nat->Bool)(g:Gf):Nat->Gf
 |0=>g
 |n+1=>if D n then tz ok (es n) (pt ok es D g n)else pt ok es D g n
abbrev Ser(ok:List Pr->Bool)(es:Nat->Ef)(g:Gf):Nat->Gf:=pt ok es (λ_=>true) g
variable{es:Nat->Ef}{D:Nat->Bool}{g:Gf}
def IQ{k:ByteArray}:∀{n:Nat},(∀i,i<n->D i=false->¬wk ok (es i) k)->pt ok es D g n k=Ser ok es g n k
 |0,_=>rfl
 |n+1,h=>by
  have a:=IQ (n:=n) λi c=>h i ae
  simp only[pt,cQ];cases b:D n with
  |true=>simp only[cQ];exact II a
  |false=>
   rw[qg (h n ae b)];simpa using a
def Es{k:ByteArray}{j:Nat}:∀{n:Nat},j<=n->(∀i,j<=i->i<n->D i=true->¬wk ok (es i) k)->pt ok es D g n k=pt ok es D g j k
 |0,b,_=>by
  obtain rfl:j=0:=ae;rfl
 |n+1,b,h=>by
  rcases bS j (n+1)with c|c
  .have a:=Es (n:=n) ae λi d f=>h i d ae
   simp only[pt];cases e:D n with
   |true=>simp only[cQ];rw[qg (h n ae ae e)];exact a
   |false=>simpa using a
  .obtain rfl:j=n+1:=ae;rfl
def j2(D:Nat->Bool)(j:Nat):Nat->Bool:=λi=>D i||decide (i=j)
def Ah{D a:Nat->Bool}:∀{n:Nat},(∀i,i<n->D i=a i)->pt ok es D g n=pt ok es a g n
 |0,_=>rfl
 |n+1,h=>by simp only[pt,h n ae,Ah (n:=n) λi b=>h i ae]
def Lb{j:Nat}{k:ByteArray}(f:D j=false):∀{n:Nat},j<n->(∀i,j<i->i<n->D i=true->wk ok (es j) k->¬wk ok (es i) k)->
  pt ok es (j2 D j) g n k=tz ok (es j) (pt ok es D g n) k
 |0,m,_=>ae
 |n+1,m,h=>by
  rcases bS j n with c|c
  .have l:=Lb (n:=n) f c λi o r=>h i o ae
   have e:j2 D j n=D n:=by simp[j2];omega
   simp only[pt,e];cases p:D n with
   |false=>simpa using l
   |true=>
    simp only[cQ];by_cases a:wk ok (es n) k
    .have b:¬wk ok (es j) k:=λd=>h n c ae p d a
     rw[qg b];exact Fu a
    .rw[qg a,l];refine II ?_;rw[qg a]
  .obtain rfl:j=n:=ae;have e:j2 D j j=true:=by simp[j2]
   have q:pt ok es (j2 D j) g j=pt ok es D g j:=Ah λi s=>by simp[j2];omega
   simp only[pt,e,f,cQ,q];rfl
end
structure AB(ok:List Pr->Bool) where
 run:Nat->Gf->Ef
 all:Nat->Bool
 rd:Nat->List ByteArray
 wr:Nat->List ByteArray
 fr:∀i g g',(∀k∈(run i g).reads,g' k=g k)->run i g'=run i g
 rs:∀i g,all i=false->∀k∈(run i g).reads,k∈rd i
 ws:∀i g k,all i=false->wk ok (run i g) k->k∈wr i
section
variable{ok:List Pr->Bool}(t:AB ok)(g:Gf)
def AB.st:Nat->Gf
 |0=>g
 |n+1=>tz ok (t.run n (AB.st n)) (AB.st n)
def AB.ef(i:Nat):Ef:=t.run i (t.st g i)
def AB.Cd:∀n,t.st g n=Ser ok (t.ef g) g n
 |0=>rfl
 |n+1=>by
  simp only[AB.st,pt,cQ,AB.ef];rw[AB.Cd n]
def AB.same{D:Nat->Bool}{j n:Nat}(e:j<=n)(f:∀i,i<j->D i=false->∀k∈(t.ef g j).reads,¬wk ok (t.ef g i) k)(h:∀i,j<=i->i<n->D i=true->∀k∈(t.ef g j).reads,¬wk ok (t.ef g i) k):
  t.run j (pt ok (t.ef g) D g n)=t.ef g j:=by
 refine t.fr j (t.st g j) _ λk d=>?_
 rw[Es e (λi a b c=>h i a b c k d),IQ (λi a b=>f i a b k d),t.Cd]
def AB.YN{j:Nat}(h:∀i,i<j->∀k∈(t.run j g).reads,¬wk ok (t.ef g i) k):t.run j g=t.ef g j:=by
 unfold AB.ef;refine(t.fr j g (t.st g j) λk a=>?_).symm;rw[t.Cd];have:=Es (ok:=ok) (es:=t.ef g) (D:=λ_=>true) (g:=g) (k:=k) (j:=0) (n:=j) ae λi _ b _=>h i b k a
 exact this
end
end
section
open Go Go.Dv
def kM(l:List Pr):Prop:=l.Pairwise λa b=>slt a.key b.key=true
def AI(l:List Pr):Prop:=(∀p∈l,lK p.key=true/\qc p.v=true)/\kM l
def rV(p:Pr):Bool:=decide (p.v.k=0)
def Bw(l:List Pr):Prop:=AI l/\∀p∈l,rV p=false
def one(p:Pr):List Pr:=if rV p then[]else[p]
def dj:List Pr->List Pr->List Pr
 |[],c=>c.flatMap one
 |a::l,[]=>a::l
 |a::l,b::c=>
  if slt a.key b.key then a::dj l (b::c)
  else if slt b.key a.key then one b++dj (a::l) c
  else one b++dj l c
termination_by l ws=>l.length+ws.length
def oP{p q:Pr}:p∈one q↔p=q/\rV q=false:=by
 unfold one;split
 .rename_i h;simp[h]
 .rename_i h;simp[h]
def fO{p:Pr}:∀{l d:List Pr},p∈dj l d->p∈l\/(p∈d/\rV p=false)
 |[],d,h=>by
  rw[dj,List.mem_flatMap]at h;obtain⟨q,e,f⟩:=h;obtain⟨rfl,c⟩:=oP.1 f;exact .inr ⟨e,c⟩
 |a::l,[],h=>by rw[dj]at h;exact .inl h
 |a::l,b::d,h=>by
  rw[dj]at h;split at h
  .rcases List.mem_cons.1 h with rfl|h
   .exact .inl az
   .rcases fO h with h|h
    .exact .inl (List.mem_cons_of_mem _ h)
    .exact .inr h
  .split at h
   .rcases List.mem_append.1 h with h|h
    .obtain⟨rfl,c⟩:=oP.1 h;exact .inr ⟨az,c⟩
    .rcases fO h with h|h
     .exact .inl h
     .exact .inr ⟨List.mem_cons_of_mem _ h.1,h.2⟩
   .rcases List.mem_append.1 h with h|h
    .obtain⟨rfl,c⟩:=oP.1 h;exact .inr ⟨az,c⟩
    .rcases fO h with h|h
     .exact .inl (List.mem_cons_of_mem _ h)
     .exact .inr ⟨List.mem_cons_of_mem _ h.1,h.2⟩
termination_by l ws=>l.length+ws.length
def tQ(p:Pr):kM (one p):=by
 unfold one;split
 .exact List.Pairwise.nil
 .exact List.pairwise_singleton _ _
def zm:∀{a:List Pr},kM a->kM (a.flatMap one)
 |[],_=>List.Pairwise.nil
 |b::a,h=>by
  rw[List.flatMap_cons];refine List.pairwise_append.2 ⟨tQ b,zm (List.pairwise_cons.1 h).2,λp d q c=>?_⟩;obtain⟨rfl,_⟩:=oP.1 d;obtain⟨r,e,c⟩:=List.mem_flatMap.1 c;obtain⟨rfl,_⟩:=oP.1 c;exact(List.pairwise_cons.1 h).1 _ e
def nj:∀{l j:List Pr},kM l->kM j->kM (dj l j)
 |[],j,_,h=>by rw[dj];exact zm h
 |a::l,[],h,_=>by rw[dj];exact h
 |a::l,b::j,h,m=>by
  have g:=List.pairwise_cons.1 h;have i:=List.pairwise_cons.1 m;rw[dj];split
  .rename_i c;refine List.pairwise_cons.2 ⟨λp f=>?_,nj g.2 m⟩;rcases fO f with f|⟨f,_⟩
   .exact g.1 p f
   .rcases List.mem_cons.1 f with rfl|f
    .exact c
    .exact gM c (i.1 p f)
  .rename_i c;split
   .rename_i k;refine List.pairwise_append.2 ⟨tQ b,nj h i.2,λp f q d=>?_⟩;obtain⟨rfl,_⟩:=oP.1 f;rcases fO d with d|⟨d,_⟩
    .rcases List.mem_cons.1 d with rfl|d
     .exact k
     .exact gM k (g.1 q d)
    .exact i.1 q d
   .rename_i k;have e:a.key=b.key:=kq (by simpa using c) (by simpa using k);refine List.pairwise_append.2 ⟨tQ b,nj g.2 i.2,λp f q d=>?_⟩;obtain⟨rfl,_⟩:=oP.1 f;rcases fO d with d|⟨d,_⟩
    .rw[<-e];exact g.1 q d
    .exact i.1 q d
termination_by l ws=>l.length+ws.length
def Me{l b:List Pr}(h:Bw l)(c:AI b):Bw (dj l b):=by
 refine⟨⟨λp a=>?_,nj h.1.2 c.2⟩,λp a=>?_⟩
 .rcases fO a with a|⟨a,_⟩
  .exact h.1.1 p a
  .exact c.1 p a
 .rcases fO a with a|⟨a,d⟩
  .exact h.2 p a
  .exact d
def WD{v:dY}(h:qc v=true)(a:v.k=0):v=V0:=by
 unfold qc at h;obtain⟨k,n,s⟩:=v;simp only at a;subst a;simp at h;rw[h.1,h.2]
def F9{l:List Pr}(h:kM l){p:Pr}(b:p∈l):cD l p.key=p.v:=by
 unfold cD;induction l with
 |nil=>cases b
 |cons a r d=>
  have c:=List.pairwise_cons.1 h;rw[List.find?_cons];rcases List.mem_cons.1 b with rfl|b
  .simp
  .have:a.key≠p.key:=kf (c.1 p b);simp only[this,decide_false];exact d c.2 b
def J0{l:List Pr}{k:ByteArray}(h:∀p∈l,p.key≠k):cD l k=V0:=by
 unfold cD;have:l.find? (λp=>decide (p.key=k))=none:=by
  rw[List.find?_eq_none];intro p a;simpa using h p a
 rw[this]
def PR{l c:List Pr}(h:Bw l)(d:Bw c)(e:∀k,cD l k=cD c k):l=c:=by
 have i:∀{l c:List Pr},Bw l->Bw c->(∀k,cD l k=cD c k)->∀p∈l,p∈c:=by
  intro l c h d e p o;have f:=F9 h.1.2 o;rw[e]at f;by_cases r:∃q∈c,q.key=p.key
  .obtain⟨q,m,j⟩:=r;have g:=F9 d.1.2 m;rw[j,f]at g;have:p=q:=by cases p;cases q;simp only at j g;subst j;subst g;rfl
   rw[this];exact m
  .exfalso;rw[J0 (λq m j=>r ⟨q,m,j⟩)]at f;have:=h.2 p o;rw[rV,<-f]at this;simp at this
 have s:∀{l:List Pr},kM l->l.Nodup:=λ{l} t=>List.Pairwise.imp (S:=λa b=>a≠b) (λ{a b} n u=>kf n (by rw[u])) (show List.Pairwise (λa b:Pr=>slt a.key b.key=true) l from t)
 refine List.Perm.eq_of_pairwise (le:=λa b:Pr=>slt a.key b.key=true) (λa b _ _ f g=>?_) h.1.2 d.1.2 ((List.perm_ext_iff_of_nodup (s h.1.2) (s d.1.2)).2 λp=>⟨i h d e p,i d h (λk=>(e k).symm) p⟩);rw[og f]at g;cases g
def pW{a:Pr}{l:List Pr}(k:ByteArray):cD (a::l) k=if a.key=k then a.v else cD l k:=by
 unfold cD;rw[List.find?_cons];by_cases h:a.key=k<;>simp[h]
def wP{b:Pr}{a:List Pr}{g:Gf}(k:ByteArray):q6 (b::a) g k=if b.key=k then b.v else q6 a g k:=by
 unfold q6;rw[List.find?_cons];by_cases h:b.key=k<;>simp[h]
def A5{b:Pr}(d:qc b.v=true){r:List Pr}(k:ByteArray)(e:∀q∈r,q.key≠b.key):cD (one b++r) k=if b.key=k then b.v else cD r k:=by
 unfold one;by_cases a:rV b=true
 .rw[aq a,List.nil_append];by_cases c:b.key=k
  .rw[aq c,J0 (λq f=>by rw[<-c];exact e q f),WD d (by simpa[rV]using a)]
  .rw[ak c]
 .rw[ak a,List.singleton_append,pW]
def oN:∀{l ws:List Pr},kM l->AI ws->∀k,cD (dj l ws) k=q6 ws (cD l) k
 |[],[],_,_,k=>by rw[dj];rfl
 |[],b::ws,h,g,k=>by
  have i:=List.pairwise_cons.1 g.2;have s:=oN (l:=[]) (ws:=ws) h ⟨λp j=>g.1 p (List.mem_cons_of_mem _ j),i.2⟩ k;rw[dj]at s;rw[dj,List.flatMap_cons,A5 (g.1 b az).2 k,wP,s];intro q d;obtain⟨r,t,d⟩:=List.mem_flatMap.1 d;obtain⟨rfl,_⟩:=oP.1 d;exact(kf (i.1 _ t)).symm
 |a::l,[],h,g,k=>by rw[dj];rfl
 |a::l,b::ws,h,g,k=>by
  have n:=List.pairwise_cons.1 h;have i:=List.pairwise_cons.1 g.2;have m:AI ws:=⟨λp j=>g.1 p (List.mem_cons_of_mem _ j),i.2⟩;rw[dj];split
  .rename_i c;rw[pW,oN n.2 g k];have e:q6 (b::ws) (cD (a::l)) k=if a.key=k then a.v else q6 (b::ws) (cD l) k:=by
    by_cases f:a.key=k
    .rw[aq f,K5,pW,aq f];rintro⟨p,j,e⟩;have:slt a.key p.key=true:=by
      rcases List.mem_cons.1 j with rfl|j
      .exact c
      .exact gM c (i.1 p j)
     exact kf this (by rw[f,e])
    .rw[ak f];unfold q6;split
     .rfl
     .rw[pW,ak f]
   rw[e]
  .rename_i c;split
   .rename_i o;rw[A5 (g.1 b az).2 k,wP,oN h m k];intro q d;have:slt b.key q.key=true:=by
     rcases fO d with d|⟨d,_⟩
     .rcases List.mem_cons.1 d with rfl|d
      .exact o
      .exact gM o (n.1 q d)
     .exact i.1 q d
    exact(kf this).symm
   .rename_i o;have e:a.key=b.key:=kq (by simpa using c) (by simpa using o);rw[A5 (g.1 b az).2 k,wP,oN n.2 m k]
    .by_cases f:b.key=k
     .rw[aq f,aq f]
     .rw[ak f,ak f];unfold q6;split
      .rfl
      .rw[pW,e,ak f]
    intro q d;have:slt b.key q.key=true:=by
     rcases fO d with d|⟨d,_⟩
     .rw[<-e];exact n.1 q d
     .exact i.1 q d
    exact(kf this).symm
termination_by l ws=>l.length+ws.length
end
section
open Go Go.Dv
abbrev P0:Pr:=⟨E,V0⟩
def Li(l:List Pr)(j:Nat):Bool:=lK (l.getD j P0).key&&(qc (l.getD j P0).v&&(decide (j=0)||slt (l.getD (j-1) P0).key (l.getD j P0).key))
def gW(l:List Pr):Bool:=(List.range l.length).all (Li l)
def vC(l:List Pr)(i:Nat)(h:i<l.length):l.getD i P0=l[i]:=by simp[List.getD_eq_getElem?_getD,h]
def PC{l:List Pr}(h:∀j,j<l.length->Li l j=true):gW l=true:=by
 simp only[gW,List.all_eq_true,List.mem_range];exact h
def A7{l:List Pr}{i:Nat}(a:i<l.length)(h:Li l i=false):gW l=false:=by
 rw[gW,List.all_eq_false];exact⟨i,List.mem_range.2 a,by simp[h]⟩
def P9(l:List Pr):Prop:=∀p∈l,p.v.s.size<=1048576
def Bb(l:List Pr)(b:Bool)(w:l.length<=1099511627776)(q:P9 l):PS tb 55 [.slice b (aT l)] (.bool (gW l)):=by
 refine bD (af:=ZD) rfl rfl ?_;unfold ZD;dsimp only[List.map,aI,ai];refine gN @bh (k1 ?_);refine bL (λj d=>∃i:Nat,i+j=l.length/\(∀j,j<i->Li l j=true)/\d=⟨[(0,.p (.slice b (aT l))),(5,.p (.slice b (aT l))),(6,.p (.int .i64 l.length)),(7,.p (.int .i64 i))],[],0,[0]⟩) ?_ l.length _ ⟨0,ae,λj h=>ae,rfl⟩;rintro j d ⟨i,x,f,rfl⟩;refine aH OW.eq_1 ?_;rcases bS i l.length with c|c
 .have e:(i:Int)<l.length:=ae;have o:(0:Int)<=i:=ae;have p:=kc l i c;have r:=q _ (List.getElem_mem c);have a:Li l i=(lK l[i].key&&(qc l[i].v&&(decide (i=0)||slt (l.getD (i-1) P0).key l[i].key))):=by simp only[Li];rw[vC l i c]
  have g:=L8 l[i].v r;dsimp only[jD]at g;have s:∀{d:St},Li l i=false->aS d.heap dep (.p (.bool false))=some (.bool (gW l)):=λh=>by rw[A7 c h];rfl
  by_cases y:i=0
  .have k:¬(0:Int)<i:=ae;refine hP (dP e o @bh p k) (bA (λ{m}=>fh m) g) (k3 ?_ ?_ ?_)<;>(repeat with_reducible intro t)
   all_goals first
    |(rw[A7 c (by rw[a];simp_all)];done)
    |(exact LI.next (m':=j-1) ae ⟨i+1,ae,nC f (by rw[a];simp_all),rfl⟩)
  .have k:(0:Int)<i:=ae;have u:(aT l)[i-1]?=some [.str (l.getD (i-1) P0).key,.int .i64 (l.getD (i-1) P0).v.k,.int .i64 (l.getD (i-1) P0).v.n,.str (l.getD (i-1) P0).v.s]:=by rw[kc l (i-1) ae,vC l (i-1) ae]
   have v:((i:Int)-1)=((i-1:Nat):Int):=ae;have n:(0:Int)<=((i-1:Nat):Int):=ae;refine hP (xI e o @bh p k u v n) (bA (λ{m}=>fh m) g) (k4 ?_ ?_ ?_ ?_)<;>(repeat with_reducible intro t)
   all_goals first
    |(rw[A7 c (by rw[a];simp_all)];done)
    |(exact LI.next (m':=j-1) ae ⟨i+1,ae,nC f (by rw[a];simp_all),rfl⟩)
 .have e:¬(i:Int)<l.length:=ae;refine gN e (k1 ?_);rw[PC λj z=>f j ae]
def CD(p:Pr):PS tb 58 [.agg (wM p)] (.bool (rV p)):=by
 refine bD (af:=YA) rfl rfl ?_;unfold YA;dsimp only[List.map,aI,ai,wM];refine gN trivial (k1 ?_);all_goals simp[rV]
def ND(l:List Pr)(b:Bool)(f:FuncId)(a:List PV)(q:Pr->Bool)(B:l.length<=1099511627776)(y:∀p∈l,PS tb f (.agg (wM p)::a) (.bool (q p)))(o:bP (aS [] 5) (a.map aI)=some a:=by rfl):
  ∃n:Int,PS tb 122 [.slice b (aT l),.func f a] (.int .i64 n)/\decide (0<=n)=l.any q:=by
 have w:W tb Jt.body {env:=ai 0 ([PV.slice b (aT l),PV.func f a].map aI),heap:=[],next:=0,marks:=[0]} (eX Jt.results λv s=>∃n:{n:Int//decide (0<=n)=l.any q},aS s.heap dep v=some (.int .i64 n.1)):=by
  unfold Jt;dsimp only[List.map,aI,ai];refine gN @bh (k1 ?_);refine bL (λj r=>∃i:Nat,i+j=l.length/\(∀j,(h:j<i)->(C:j<l.length)->q l[j]=false)/\r=⟨[(0,.p (.slice b (aT l))),(1,.p (.func f a)),(7,.p (.int .i64 l.length)),(8,.p (.int .i64 i))],[],0,[0]⟩) ?_ l.length _ ⟨0,ae,λj h=>ae,rfl⟩;rintro j r ⟨i,D,t,rfl⟩;refine aH Ku.eq_1 ?_;rcases bS i l.length with c|c
  .have g:(i:Int)<l.length:=ae;have u:(0:Int)<=i:=ae;have x:=kc l i c;have d:=y _ (List.getElem_mem c);dsimp only[wM]at d;cases e:q l[i]with
   |true=>
    rw[e]at d;refine gP (dP g u @bh x o) d (k1 ?_);exact⟨⟨i,by rw[List.any_eq_true.2 ⟨l[i],List.getElem_mem c,e⟩];simp⟩,rfl⟩
   |false=>
    rw[e]at d;refine gP (dP g u @bh x o) d (k1 ?_);refine LI.next (m':=j-1) ae ⟨i+1,ae,λj k m=>?_,rfl⟩;rcases C3.1 k with h|rfl
    .exact t j h m
    .exact e
  .have g:¬(i:Int)<l.length:=ae;refine gN g (k1 ?_);refine⟨⟨-1,?_⟩,rfl⟩;have:l.any q=false:=by
    rw[List.any_eq_false];intro p z;obtain⟨j,k,rfl⟩:=List.mem_iff_getElem.1 z;rw[t j ae k];simp
   rw[this];rfl
 obtain⟨⟨n,A⟩,h⟩:=jg (T:=tb) (f:=122) (af:=Jt) rfl rfl w;exact⟨n,h,A⟩
end
end Go.Dv.Tryz
