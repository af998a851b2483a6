/- Lemmas for the law of this claim. -/
import Derived.Test.YtcphhjkcgikdgaaGreatDoorP41
import Derived.Test.YtcphhjkcgikdgaaGreatDoorP36
set_option linter.all false
set_option maxRecDepth 100000
set_option maxHeartbeats 8000000
namespace Go.Dv.Tryz
section
open Go Go.Dv
def XN{P:List PV->Prop}{f:FuncId}{af:av}(b:tb.A f=some af){args:List PV}(c:args.length=af.nparams)
  (h:W tb af.body {env:=ai 0 (args.map aI),heap:=[],next:=0,marks:=[0]} (eX af.results λv s=>∃n:{l:List PV//P l},aS s.heap dep v=some (.agg n.1)))(a:af.rs=false:=by rfl):∃l:List PV,PS tb f args (.agg l)/\P l:=by
 obtain⟨⟨n,d⟩,h⟩:=jg (T:=tb) b c h (hrs:=a);exact⟨n,h,d⟩
def Kj(e:bj)(l:List PV):Prop:=∃f a,l=[.int .i64 e.op,.int .i64 e.n,.str e.s,.slice f a]/\ed a=true/\a.length<=1048576/\(aW a).length+1<=e.sz
def Kj.four{e:bj}{l:List PV}(h:Kj e l):l.length=4:=by obtain⟨f,a,rfl,_⟩:=h;rfl
def Kj.row{e:bj}{l:List PV}(h:Kj e l):ed [l]=true/\(aW [l]).length<=e.sz:=by
 obtain⟨f,b,rfl,a,c,d⟩:=h;refine⟨?_,?_⟩
 .simp only[ed,zL,sk,a,Bool.and_true,Bool.true_and,df];omega
 .simp only[aW,yJ,HA,List.nil_append,List.append_nil,List.length_append,List.length_cons,List.length_nil];omega
def s7:∀(l:List bj) (e:bj),dE (l++[e])=dE l+e.sz
 |[],e=>by simp[dE]
 |x::l,e=>by simp only[List.cons_append,dE,s7 l e];omega
def LM{n:Nat}{a:List (List PV)}{y:List PV}(h:bT n a=true)(b:y.length=n):bT n (a++[y])=true:=by
 simp only[bT,List.all_append,List.all_cons,List.all_nil,Bool.and_true,aL,cH]at h⊢;exact⟨h,b⟩
def EB:∀(k:Nat) (e:bj),e.sz<=k->k<=1048576->∃l:List PV,PS tb 205 [.agg [.int .i64 e.op,.int .i64 e.n,.str e.s,.slice e.f (cn e.xs)]] (.agg l)/\Kj e l
 |0,e,n,_=>by cases e;simp[bj.sz]at n
 |k+1,e,n,H=>by
  have x:e.xs.length<=1048576:=by have:=bQ e.xs;rw[bj.gj]at n;omega
  have p:dE e.xs<=k:=by rw[bj.gj]at n;omega
  refine XN (af:=UN) rfl rfl ?_;unfold UN;dsimp only[List.map,aI,ai];refine gN (bA @bB eW) (k1 ?_);refine bL (λj q=>∃i:Nat,i+j=e.xs.length/\((i=0/\q=⟨[(1,.ptr 0 0),(2,.ptr 1 0),(9,.p (.slice e.f (cn e.xs))),(10,.p (.int .i64 e.xs.length)),(11,.p (.int .i64 0))],[(1,.var false [.p (.int .i64 0),.p (.int .i64 0),.p (.str ⟨#[]⟩),.p (.slice true [])]),(0,.var false [.p (.int .i64 e.op),.p (.int .i64 e.n),.p (.str e.s),.p (.slice true [])])],2,[0]⟩)\/
   ∃a:List (List PV),a.length=i/\bT 4 a=true/\(ed a=true/\(aW a).length<=dE (e.xs.take i))/\q=⟨[(1,.ptr 0 0),(2,.ptr 1 0),(9,.p (.slice e.f (cn e.xs))),(10,.p (.int .i64 e.xs.length)),(11,.p (.int .i64 i))],[(3,.row false 4 a),(1,.var false [.p (.int .i64 0),.p (.int .i64 0),.p (.str ⟨#[]⟩),.p (.slice true [])]),(0,.var false [.p (.int .i64 e.op),.p (.int .i64 e.n),.p (.str e.s),.ref 3 i 0 i])],4,[0]⟩)) ?_ e.xs.length _ ⟨0,ae,.inl ⟨rfl,rfl⟩⟩
  rintro j q ⟨i,I,g⟩;refine aH Jp.eq_1 ?_;rcases bS i e.xs.length with c|c
  .have y:(0:Int)<=i:=ae;have r:=kT e.xs i c;rw[bj.As]at r;have b:(i:Int)<e.xs.length:=ae;obtain⟨l,z,A⟩:=EB k e.xs[i] (ep (lE (List.getElem_mem c)) p) ae;obtain⟨B,J⟩:=A.row;have s:=A.four;have h:e.xs.take (i+1)=e.xs.take i++[e.xs[i]]:=List.take_succ_eq_append_getElem c;rcases l with _|⟨t,_|⟨u,_|⟨v,_|⟨w,_|⟨K,l⟩⟩⟩⟩⟩<;>simp at s
   have C:(i+1)*56<=an:=by simp only[an];omega
   have D:i+1<=an:=by simp only[an];omega
   have E:bT 4 [[t,u,v,w]]=true:=rfl;rcases g with⟨rfl,rfl⟩|⟨a,o,d,⟨f,m⟩,rfl⟩
   .have b:(0:Int)<e.xs.length:=ae;have F:56<=an:=by simp only[an];omega
    have G:1<=an:=by simp only[an];omega
    refine gP (o9 b y r @bB eW E C D F G) z (k1 ?_);exact LI.next (m':=j-1) ae ⟨1,ae,.inr ⟨[[t,u,v,w]],rfl,rfl,⟨B,by rw[h,s7];omega⟩,rfl⟩⟩
   .refine gP (o9 b y r @bB eW E C D o d) z (k1 ?_);exact LI.next (m':=j-1) ae ⟨i+1,ae,.inr ⟨a++[[t,u,v,w]],by simp[o],LM d rfl,⟨by rw[nU,f,B];rfl,by rw[h,s7,mc,List.length_append];omega⟩,rfl⟩⟩
  .have b:¬(i:Int)<e.xs.length:=ae;rcases g with⟨rfl,rfl⟩|⟨a,o,d,⟨f,m⟩,rfl⟩
   .have b:¬(0:Int)<e.xs.length:=ae;refine gN (bA b eW) (k1 ?_);exact⟨⟨_,true,[],rfl,rfl,az,by simp only[aW,List.length_nil];rw[bj.gj];omega⟩,rfl⟩
   .rw[List.take_of_length_le c]at m;refine gN (dS b eW o) (k1 ?_);exact⟨⟨_,false,a,rfl,f,ae,by rw[bj.gj];omega⟩,by rw[List.take_of_length_le ae]⟩
end
section
open Go Go.Dv
noncomputable def VW (e:bj):List PV:=Classical.epsilon λl=>PS tb 205 [.agg [.int .i64 e.op,.int .i64 e.n,.str e.s,.slice e.f (cn e.xs)]] (.agg l)/\Kj e l
def Fw(e:bj)(a:e.sz<=1048576):PS tb 205 [.agg [.int .i64 e.op,.int .i64 e.n,.str e.s,.slice e.f (cn e.xs)]] (.agg (VW e))/\Kj e (VW e):=
 od (p:=λl=>PS tb 205 [.agg [.int .i64 e.op,.int .i64 e.n,.str e.s,.slice e.f (cn e.xs)]] (.agg l)/\Kj e l) (EB e.sz e (Nat.le_refl _) a)
def He(p:List DV)(n:Nat)(o:List (List PV)):Heap:=[(4,.var false [.p (.int .i64 n),.func 203 [],.func 204 [.ptr 1 0]]),(3,.var false p),(2,.row false 4 o),(1,.var false [.ref 2 o.length 0 o.length]),(0,.var false p)]
noncomputable def EK (o:List (List PV)) (e:bj):List (List PV):=o++[VW e]
def UK(p:Pc):WF 5 4 (He (fG p)) (.func 203 []) (.func 204 [.ptr 1 0]) where
 wb:=ae
 gw:=λn s=>rfl
 sw:=λn s m=>rfl
 ba:=λn s c hc=>by
  have h4:4<c:=ae;have h3:3<c:=ae;have h2:2<c:=ae;have h1:1<c:=ae;have h0:0<c:=ae;simp[He,aD,h4,h3,h2,h1,h0]
 al:=λn s c hc=>by
  have h1:1<c:=ae;have h2:2<c:=ae;simp[He,de,bq.below,below,dep,h1,h2]
 no:=λn s c hc=>by
  have h4:¬4=c:=ae;have h3:¬3=c:=ae;have h2:¬2=c:=ae;have h1:¬1=c:=ae;have h0:¬0=c:=ae;simp[He,ag,h4,h3,h2,h1,h0]
def US(p:List DV)(n:Nat)(o:List (List PV))(k z:List PV):aC (aC (aC (He p n o) 2 (.row false 4 (o++[z]))) 2 (.row false 4 (o++[k]))) 1 (.var false [.ref 2 (o.length+1) 0 (o.length+1)])=He p n (o++[k]):=by simp[He,aC]
def Rw{a:Type}(o:List a)(z k:a):(o++[z]).set o.length k=o++[k]:=az
def Ql{a:Type}(o:List a)(z:a):(o++[z]).length=o.length+1:=az
def QI{a:Type}(o:List a)(z:a):(o++[z])[o.length]?=some z:=az
def MH(p:Pc){L:Heap}{a:Nat}(h:sE 5 L a)(n:Nat)(o:List (List PV))(E:o.length<=1048576)(e:bj)(k:e.sz<=1048576):BS tb 204 [.agg (xT e),.ptr 1 0] (L++He (fG p) n o) a (.tuple []) (L++He (fG p) n (EK o e)) a:=by
 have g:=(UK p).g h;obtain⟨f,i⟩:=Fw e k;have j:=i.four;clear i;have m:∀o,ag (L++He (fG p) n o) 1=some (.var false [.ref 2 o.length 0 o.length]):=λo=>by rw[dK (h.no 1 (.inr ae))];rfl
 have q:∀o,ag (L++He (fG p) n o) 2=some (.row false 4 o):=λo=>by rw[dK (h.no 2 (.inr ae))];rfl
 have r:∀o b,aC (L++He (fG p) n o) 2 b=L++aC (He (fG p) n o) 2 b:=λo b=>iO (h.no 2 (.inr ae))
 have s:∀o b c,aC (L++aC (He (fG p) n o) 2 b) 2 c=L++aC (aC (He (fG p) n o) 2 b) 2 c:=λo b c=>iO (h.no 2 (.inr ae))
 have t:∀o b c d,aC (L++aC (aC (He (fG p) n o) 2 b) 2 c) 1 d=L++aC (aC (aC (He (fG p) n o) 2 b) 2 c) 1 d:=λo b c d=>iO (h.no 1 (.inr ae))
 have u:∀o b,ag (L++aC (He (fG p) n o) 2 b) 2=some b:=λo b=>by rw[dK (h.no 2 (.inr ae))];rfl
 have v:∀o b c,ag (L++aC (aC (He (fG p) n o) 2 b) 2 c) 1=some (.var false [.ref 2 o.length 0 o.length]):=λo b c=>by rw[dK (h.no 1 (.inr ae))];rfl
 have w:=h.ge;have x:(a==1)=false:=fy.2 ae;have y:(a==2)=false:=fy.2 ae;have z:(o.length+1)*56<=an:=by simp only[an];omega
 have A:o.length+1<=an:=by simp only[an];omega
 unfold EK;generalize VW e=l at f j⊢;rcases l with _|⟨F,_|⟨G,_|⟨H,_|⟨I,_|⟨J,l⟩⟩⟩⟩⟩<;>simp at j
 have B:bT 4 [[PV.int .i64 0,PV.int .i64 0,PV.str ⟨#[]⟩,PV.slice true []]]=true:=rfl;refine ib (af:=UX) rfl rfl ?_;unfold UX;dsimp only[ai];have C:(o.length:Int)<(o.length+1:Nat):=ae;have D:(0:Int)<=o.length:=ae;exact gP (Cj g.n0<|Cj g.b0<|Cj g.l0<|Cj g.b1<|Cj g.l1<|Cj m<|Cj q<|Cj u<|Cj v<|Cj t<|Cj r<|Cj s<|Cj x<|Cj y<|Cj @US<|Cj @Rw<|Cj @Ql<|Cj @QI<|Cj z<|Cj A<|Cj B<|Cj C<|D) f k0
def Nh{H:Heap}{c:Nat}(e:cl)(d:Int)(h:ag H c=none)(i:aD c H=H)(j:de c H=true):BS tb 203 [.agg e.d,.p (.int .i64 d)] H c (.tuple []) H c:=by
 obtain⟨l,name,max,a,b,f,g,m,k⟩:=e;simp only[cl.d,dR];refine ib (af:=a203) rfl rfl ?_;unfold a203;dsimp only[ai];exact gN (dS h i j) k0
def RX(p:Pc):WC 5 4 (He (fG p)) 203 [] 204 [.ptr 1 0] (λn o=>o.length+n<=402) (λo _ _=>o) EK where
 wf:=UK p
 mono:=λh1 h2=>ae
 S:=λh n o st d _ _ _ _=>by
  have g:=(UK p).g h;exact Nh st d (g.n0 n o) (g.b0 n o) (g.l0 n o)
 R:=λh n o e _ hz _ _ hi=>MH p h n o ae e hz
 iS:=λh=>ae
 iR:=λ{n s e} h=>by simp only[EK,List.length_append,List.length_cons,List.length_nil];omega
noncomputable def rF (p:Pc):Nat×List (List PV):=pd (λo _ _=>o) EK p.body 1 (401,[])
def GP(o:List (List PV)):Prop:=ed o=true/\(aW o).length<=o.length*1048576
def GP.snoc{o:List (List PV)}{e:bj}(h:GP o)(a:e.sz<=1048576):GP (EK o e):=by
 obtain⟨b,c⟩:=(Fw e a).2.row;unfold EK;refine⟨by rw[nU,h.1,b];rfl,?_⟩
 have:=h.2;rw[mc,List.length_append,List.length_append,List.length_singleton];omega
def Gn(e:bj)(a:e.sz<=1048576)(x:Nat×List (List PV))(h:GP x.2):GP (AN EK e x).2:=by
 unfold AN;split
 .exact h
 .exact h.snoc a
mutual
theorem Pu(s:cl)(d:Int)(x:Nat×List (List PV))(i:s.ok)(h:GP x.2):GP (D7 (λo _ _=>o) EK s d x).2:=by
 cases s with
 |mk n name max a b f c g e=>
  simp only[cl.ok]at i;obtain⟨_,_,_,⟨_,j⟩,⟨_,k⟩,l,m⟩:=i;rw[D7];exact vx e _ _ m (vx c _ _ l (Gn b k _ (Gn a j _ h)))
theorem vx(l:List cl)(d:Int)(x:Nat×List (List PV))(a:dU l)(h:GP x.2):GP (pd (λo _ _=>o) EK l d x).2:=by
 cases l with
 |nil=>rw[pd];exact h
 |cons s r=>
  simp only[dU]at a;rw[pd];split
  .exact h
  .exact vx r _ _ a.2 (Pu s d x a.1 h)
end
def Qy(p:Pc)(b:dU p.body)(c:eZ p.body<=1048576):BS tb 197 [.agg (fG p),.func 203 [],.func 204 [.ptr 1 0]] [(2,.row false 4 []),(1,.var false [.ref 2 0 0 0]),(0,.var false (fG p))] 3 (.p (.int .i64 (401-(rF p).1)))
  [(2,.row false 4 (rF p).2),(1,.var false [.ref 2 (rF p).2.length 0 (rF p).2.length]),(0,.var false (fG p))] 3:=by
 have h:=qt (RX p) 1048577 p.body ae ae b p.fb [] 5 401 [] 1 (FM 5) ae az;have a:=(kX (RX p) p.body 1 (401,[]) az).2;refine ib (af:=Eu) rfl rfl ?_;unfold Eu;dsimp only[ai]
 change BS tb _ _ (He (fG p) 401 []) 5 _ (He (fG p) (rF p).1 (rF p).2) 5 at h
 change(rF p).1<=401 at a
 generalize rF p=x at h a⊢;simp only[He]at h;exact gR trivial trivial h k0;all_goals simp
def Py(p:Pc)(h:o7 p):PS tb 167 [.agg (eV p)] (.slice false (rF p).2):=by
 have a:=Qy p h.bo h.bz;generalize rF p=x at a⊢;refine bD (af:=a167) rfl rfl ?_;unfold a167;dsimp only[List.map,aI,ai,eV];refine gR eW trivial a (k1 ?_);all_goals rw[List.take_of_length_le ae]
def C8(a:Int):∃b,PS tb 169 [.int .i64 a] (.bool b)/\True:=by
 refine uI (af:=VJ) rfl rfl ?_;unfold VJ;dsimp only[List.map,aI,ai];refine hN trivial (k3 ?_ ?_ ?_)<;>(repeat with_reducible intro c)
 all_goals exact⟨⟨_,trivial⟩,rfl⟩
def Lh:∀(l:List Int) (k:Nat),∃N,∀m,N<=m->∃r,jz (jf (dQ tb.A tb.X m) 169) k l=some r
 |[],k=>⟨0,λm _=>⟨_,rfl⟩⟩
 |n::r,k=>by
  obtain⟨b,⟨c,d⟩,_⟩:=C8 n;obtain⟨e,f⟩:=Lh r (k+1);refine⟨max c e,λm a=>?_⟩;have g:jf (dQ tb.A tb.X m) 169 n=some b:=by
   unfold jf;rw[(gk tb.A tb.X (ep (mz _ _) a)).pure _ _ _ d]
  obtain⟨q,h⟩:=f m (ep (mA _ _) a);simp only[jz,g];cases b with
  |true=>exact⟨_,rfl⟩
  |false=>exact⟨q,h⟩
def K0:∀(l:List Int),∃N,∀m,N<=m->l.all (λo=>(jf (dQ tb.A tb.X m) 169 o).isSome)=true
 |[]=>⟨0,λm _=>rfl⟩
 |n::r=>by
  obtain⟨b,⟨c,d⟩,_⟩:=C8 n;obtain⟨e,f⟩:=K0 r;refine⟨max c e,λm a=>?_⟩;have g:jf (dQ tb.A tb.X m) 169 n=some b:=by
   unfold jf;rw[(gk tb.A tb.X (ep (mz _ _) a)).pure _ _ _ d]
  rw[List.all_cons,g,f m (ep (mA _ _) a)];rfl
def Pf(p:Pc)(h:o7 p):sk (.slice false (rF p).2)=true/\(aW (rF p).2).length<=4611686018427387904:=by
 obtain⟨a,b⟩:=vx p.body 1 (401,[]) h.bo ⟨rfl,Nat.zero_le _⟩;have c:=(kX (RX p) p.body 1 (401,[]) az).1
 change(rF p).2.length+(rF p).1<=402 at c
 change ed (rF p).2=true at a
 change(aW (rF p).2).length<=(rF p).2.length*1048576 at b
 refine⟨?_,ae⟩;simp only[sk,a,Bool.true_and,df];omega
def Q7(p:Pc)(h:o7 p):∃(n k:Int) (b:Bool),PS tb 133 [.agg (eV p)] (.tuple [.int .i64 n,.int .i64 k,.bool b]):=by
 obtain⟨e,⟨f,s⟩,_⟩:=yC p h;obtain⟨g,t⟩:=Py p h;obtain⟨N4,u⟩:=Lh (aW (rF p).2) 0;obtain⟨v,w⟩:=K0 (aW (rF p).2);obtain⟨x,y⟩:=Pf p h;obtain⟨i,z⟩:∃N,∀m,N<=m->∃r,wG (jf (dQ tb.A tb.X m) 169) false (rF p).2=some r:=⟨max N4 v,λm c=>by
  unfold wG;rw[aq ⟨x,y,w m (ep (mA _ _) c)⟩];exact u m (ep (mz _ _) c)⟩
 have l:tb.A 133=some KJ:=rfl;have c:=λm (c:max f (max g i)<=m)=>(gk tb.A tb.X (ep (mz _ _) c)).pure _ _ _ s
 have j:=λm (c:max f (max g i)<=m)=>(gk tb.A tb.X (ep (ep (mz _ _) (mA _ _)) c)).pure _ _ _ t
 obtain⟨⟨n,k,b⟩,o⟩:=z (max f (max g i)) (ep (mA _ _) (mA _ _));have d:=c _ (Nat.le_refl _);have a:=j _ (Nat.le_refl _);generalize max f (max g i)=m at o d a;by_cases q:e=0
 .refine⟨n,k,b,m+1,?_⟩;rw[dQ];simp only[l];unfold prun jH KJ;simp only[ik,lH,rO];dsimp only[eV,List.map,aI]at d a⊢;simp[bP,aS,dep,d,a,q,o]
 .refine⟨0,0,false,m+1,?_⟩;rw[dQ];simp only[l];unfold prun jH KJ;simp only[ik,lH,rO];dsimp only[eV,List.map,aI]at d a⊢;simp[bP,aS,dep,d,a,q]
end
section
open Go Go.Dv
def ZJ(p:List DV)(b:cl):Prop:=∀(L:Heap) (a:Nat) (s:Sg),sE 5 L a->∃r:Int×Sg,BS tb 202 [.ptr 4 0,.agg b.d] (L++Hc p s) a (.p (.int .i64 r.1)) (L++Hc p r.2) a
def Ug(p:List DV)(f:Bool)(l:List cl):Prop:=∀(L:Heap) (a:Nat) (s:Sg),sE 5 L a->∃r:Int×Sg,BS tb 166 [.ptr 4 0,.p (.slice f (cU l))] (L++Hc p s) a (.p (.int .i64 r.1)) (L++Hc p r.2) a
section
variable{p:List DV}(hp:p.all (below 1 dep)=true)
include hp in
theorem Xp(e:Int)(name:ByteArray)(max:Int)(a b:bj)(f:Bool)(c:List cl)(A:Bool)(m:List cl)(D:a.sz<=1048576)(E:b.sz<=1048576)(F:o8 e a b)(i:Ug p f c)(v:Ug p A m):ZJ p (.mk e name max a b f c A m):=by
 intro L S s h;have g:=h.cg hp;have q:=h.cons (k:=.var false (dR e name max a b f c A m));obtain⟨⟨O,P,Q⟩,d⟩:=HS hp q s e name max a b f c A m D E F;dsimp only at d;simp only[dR]at d;refine B6 (af:=Vh) rfl (λr:Int×Sg=>.p (.int .i64 r.1)) (λr=>L++Hc p r.2) rfl ?_;unfold Vh;dsimp only[ai,cl.d,dR];by_cases ce:Q=0
 case neg=>
  refine gR (Cj g.n0<|Cj g.b0<|Cj g.l0<|Cj g.b1<|Cj g.l1<|Cj g.g1<|Cj g.g2<|Cj g.g3<|Cj g.g4<|Cj g.s1<|Cj g.s2<|Cj g.s3<|Cj g.w1<|Cj g.w2<|Cj g.w3<|Cj g.w4<|Cj g.lt<|Cj @e9<|Cj @eB<|Cj @eH<|ce) trivial d (k1 ?_);all_goals first
   |contradiction
   |exact⟨(_,_),rfl,rfl⟩
 by_cases j:e=1
 .have w:=tR hp q s name O;simp only[dR]at w;refine gR (Cj g.n0<|Cj g.b0<|Cj g.l0<|Cj g.b1<|Cj g.l1<|Cj g.g1<|Cj g.g2<|Cj g.g3<|Cj g.g4<|Cj g.s1<|Cj g.s2<|Cj g.s3<|Cj g.w1<|Cj g.w2<|Cj g.w3<|Cj g.w4<|Cj g.lt<|Cj @e9<|Cj @eB<|Cj @eH<|Cj (bU ce)<|(bU j)) trivial (bA d w) (k1 ?_);all_goals first
   |contradiction
   |exact⟨(_,_),rfl,rfl⟩
 by_cases n:e=2
 .cases J:s.v name with
  |none=>
   have B:nL s.v name=none:=by simp[nL,J]
   refine gR (Cj g.n0<|Cj g.b0<|Cj g.l0<|Cj g.b1<|Cj g.l1<|Cj g.g1<|Cj g.g2<|Cj g.g3<|Cj g.g4<|Cj g.s1<|Cj g.s2<|Cj g.s3<|Cj g.w1<|Cj g.w2<|Cj g.w3<|Cj g.w4<|Cj g.lt<|Cj @e9<|Cj @eB<|Cj @eH<|Cj (bU ce)<|Cj j<|Cj (bU n)<|B) trivial d (k1 ?_);all_goals first
    |contradiction
    |exact⟨(_,_),rfl,rfl⟩
  |some z=>
   have B:nL s.v name=some (.one (.int .i64 z)):=by simp[nL,J]
   cases K:s.l name with
   |none=>
    have G:tP s.l name=none:=by simp[tP,K]
    refine hR (Cj g.n0<|Cj g.b0<|Cj g.l0<|Cj g.b1<|Cj g.l1<|Cj g.g1<|Cj g.g2<|Cj g.g3<|Cj g.g4<|Cj g.s1<|Cj g.s2<|Cj g.s3<|Cj g.w1<|Cj g.w2<|Cj g.w3<|Cj g.w4<|Cj g.lt<|Cj @e9<|Cj @eB<|Cj @eH<|Cj (bU ce)<|Cj j<|Cj (bU n)<|Cj B<|G) trivial d (k2 ?_ ?_)<;>(repeat with_reducible intro t)
    all_goals first
     |contradiction
     |exact⟨(_,_),rfl,rfl⟩
   |some y=>
    have G:tP s.l name=some (.one (.bool y)):=by simp[tP,K]
    refine hR (Cj g.n0<|Cj g.b0<|Cj g.l0<|Cj g.b1<|Cj g.l1<|Cj g.g1<|Cj g.g2<|Cj g.g3<|Cj g.g4<|Cj g.s1<|Cj g.s2<|Cj g.s3<|Cj g.w1<|Cj g.w2<|Cj g.w3<|Cj g.w4<|Cj g.lt<|Cj @e9<|Cj @eB<|Cj @eH<|Cj (bU ce)<|Cj j<|Cj (bU n)<|Cj B<|G) trivial d (k3 ?_ ?_ ?_)<;>(repeat with_reducible intro t)
    all_goals first
     |contradiction
     |exact⟨(_,_),rfl,rfl⟩
 by_cases u:e=3
 .refine hR (Cj g.n0<|Cj g.b0<|Cj g.l0<|Cj g.b1<|Cj g.l1<|Cj g.g1<|Cj g.g2<|Cj g.g3<|Cj g.g4<|Cj g.s1<|Cj g.s2<|Cj g.s3<|Cj g.w1<|Cj g.w2<|Cj g.w3<|Cj g.w4<|Cj g.lt<|Cj @e9<|Cj @eB<|Cj @eH<|Cj (bU ce)<|Cj j<|Cj n<|(bU u)) trivial d (k3 ?_ ?_ ?_)<;>(repeat with_reducible intro t)
  all_goals first
   |contradiction
   |exact⟨(_,_),rfl,rfl⟩
 by_cases x:e=4
 .refine hR (Cj g.n0<|Cj g.b0<|Cj g.l0<|Cj g.b1<|Cj g.l1<|Cj g.g1<|Cj g.g2<|Cj g.g3<|Cj g.g4<|Cj g.s1<|Cj g.s2<|Cj g.s3<|Cj g.w1<|Cj g.w2<|Cj g.w3<|Cj g.w4<|Cj g.lt<|Cj @e9<|Cj @eB<|Cj @eH<|Cj (bU ce)<|Cj j<|Cj n<|Cj u<|(bU x)) trivial d (k2 ?_ ?_)<;>(repeat with_reducible intro t)
  all_goals first
   |contradiction
   |exact⟨(_,_),rfl,rfl⟩
 by_cases C:e=7
 .refine hR (Cj g.n0<|Cj g.b0<|Cj g.l0<|Cj g.b1<|Cj g.l1<|Cj g.g1<|Cj g.g2<|Cj g.g3<|Cj g.g4<|Cj g.s1<|Cj g.s2<|Cj g.s3<|Cj g.w1<|Cj g.w2<|Cj g.w3<|Cj g.w4<|Cj g.lt<|Cj @e9<|Cj @eB<|Cj @eH<|Cj (bU ce)<|Cj j<|Cj n<|Cj u<|Cj x<|(bU C)) trivial d (k2 ?_ ?_)<;>(repeat with_reducible intro t)
  all_goals first
   |contradiction
   |exact⟨(_,_),rfl,rfl⟩
 by_cases H:e=5
 .obtain⟨⟨R,M⟩,o⟩:=i _ _ s q;dsimp only at o;simp only[dR]at o;obtain⟨⟨T,U⟩,I⟩:=v _ _ M q;dsimp only at I;simp only[dR]at I;refine hR (Cj g.n0<|Cj g.b0<|Cj g.l0<|Cj g.b1<|Cj g.l1<|Cj g.g1<|Cj g.g2<|Cj g.g3<|Cj g.g4<|Cj g.s1<|Cj g.s2<|Cj g.s3<|Cj g.w1<|Cj g.w2<|Cj g.w3<|Cj g.w4<|Cj g.lt<|Cj @e9<|Cj @eB<|Cj @eH<|Cj (bU ce)<|Cj j<|Cj n<|Cj u<|Cj x<|Cj C<|(bU H)) trivial (dS d o I) (k3 ?_ ?_ ?_)<;>(repeat with_reducible intro t)
  all_goals first
   |contradiction
   |exact⟨(_,_),rfl,rfl⟩
 by_cases N:e=6
 .have w:=tR hp q s name 1;simp only[dR]at w;obtain⟨⟨R,M⟩,o⟩:=i _ _ {Fj s name 1 with nl:=if(tP (Fj s name 1).l name).isSome then(Fj s name 1).nl else(Fj s name 1).nl+1,l:=VC (Fj s name 1).l name true} q;dsimp only at o;simp only[dR]at o;refine hR (Cj g.n0<|Cj g.b0<|Cj g.l0<|Cj g.b1<|Cj g.l1<|Cj g.g1<|Cj g.g2<|Cj g.g3<|Cj g.g4<|Cj g.s1<|Cj g.s2<|Cj g.s3<|Cj g.w1<|Cj g.w2<|Cj g.w3<|Cj g.w4<|Cj g.lt<|Cj @e9<|Cj @eB<|Cj @eH<|Cj (bU ce)<|Cj j<|Cj n<|Cj u<|Cj x<|Cj C<|Cj H<|(bU N)) trivial (dS d w o) (k3 ?_ ?_ ?_)<;>(repeat with_reducible intro t)
  all_goals first
   |contradiction
   |exact⟨(_,_),rfl,rfl⟩
 .refine gR (Cj g.n0<|Cj g.b0<|Cj g.l0<|Cj g.b1<|Cj g.l1<|Cj g.g1<|Cj g.g2<|Cj g.g3<|Cj g.g4<|Cj g.s1<|Cj g.s2<|Cj g.s3<|Cj g.w1<|Cj g.w2<|Cj g.w3<|Cj g.w4<|Cj g.lt<|Cj @e9<|Cj @eB<|Cj @eH<|Cj (bU ce)<|Cj j<|Cj n<|Cj u<|Cj x<|Cj C<|Cj H<|N) trivial d (k1 ?_);all_goals first
   |contradiction
   |exact⟨(_,_),rfl,rfl⟩
end
end
section
open Go Go.Dv
def AU:∀{l:List cl},uS l->∀s∈l,Qq s
 |[],_,s,h=>by simp at h
 |x::r,a,s,h=>by
  rw[uS]at a;rcases List.mem_cons.1 h with rfl|h
  .exact a.1
  .exact AU a.2 s h
section
variable{p:List DV}(hp:p.all (below 1 dep)=true)
include hp in
theorem yZ(f:Bool)(l:List cl)(y:l.length<=1048576)(E:∀s∈l,ZJ p s):Ug p f l:=by
 intro L n s h;have g:=h.cg hp;refine B6 (af:=Sj) rfl (λr:Int×Sg=>.p (.int .i64 r.1)) (λr=>L++Hc p r.2) rfl ?_;unfold Sj;dsimp only[ai];refine gN (Cj g.n0<|Cj g.b0<|Cj g.l0<|Cj g.b1<|Cj g.l1<|Cj g.g1<|Cj g.g2<|Cj g.g3<|Cj g.g4<|Cj g.s1<|Cj g.s2<|Cj g.s3<|Cj g.w1<|Cj g.w2<|Cj g.w3<|Cj g.w4<|Cj g.lt<|Cj @e9<|Cj @eB<|Cj @eH<|@cG) (k1 ?_);refine bL (λj t=>∃(i:Nat) (o:Sg),i+j=l.length/\t=⟨[(0,.ptr 4 0),(1,.p (.slice f (cU l))),(10,.p (.slice f (cU l))),(11,.p (.int .i64 l.length)),(12,.p (.int .i64 i))],L++Hc p o,n,[n,n]⟩) ?_ l.length _ ⟨0,s,ae,rfl⟩;rintro j t ⟨i,o,F,rfl⟩;refine aH J9.eq_1 ?_;rcases bS i l.length with c|c
 .have d:(i:Int)<l.length:=ae;have u:(0:Int)<=i:=ae;have e:=mG l i c;have z:=E l[i] (List.getElem_mem c);generalize l[i]=q at e z;obtain⟨x,name,max,a,b,A,m,B,v⟩:=q;simp only[cl.cs]at e;have G:=h.cons (k:=.var false (dR x name max a b A m B v));obtain⟨⟨r,H⟩,w⟩:=z _ _ o G;dsimp only at w;simp only[cl.d,dR]at w;by_cases C:r=0
  .refine gR (Cj g.n0<|Cj g.b0<|Cj g.l0<|Cj g.b1<|Cj g.l1<|Cj g.g1<|Cj g.g2<|Cj g.g3<|Cj g.g4<|Cj g.s1<|Cj g.s2<|Cj g.s3<|Cj g.w1<|Cj g.w2<|Cj g.w3<|Cj g.w4<|Cj g.lt<|Cj @e9<|Cj @eB<|Cj @eH<|Cj d<|Cj u<|Cj e<|Cj @cG<|(bU C)) trivial w (k1 ?_);all_goals first
    |contradiction
    |exact LI.next (m':=j-1) ae ⟨i+1,H,ae,rfl⟩
  .refine gR (Cj g.n0<|Cj g.b0<|Cj g.l0<|Cj g.b1<|Cj g.l1<|Cj g.g1<|Cj g.g2<|Cj g.g3<|Cj g.g4<|Cj g.s1<|Cj g.s2<|Cj g.s3<|Cj g.w1<|Cj g.w2<|Cj g.w3<|Cj g.w4<|Cj g.lt<|Cj @e9<|Cj @eB<|Cj @eH<|Cj d<|Cj u<|Cj e<|Cj @cG<|C) trivial w (k1 ?_);all_goals first
    |contradiction
    |exact⟨(_,_),rfl,rfl⟩
 .have d:¬(i:Int)<l.length:=ae;refine gN (Cj g.n0<|Cj g.b0<|Cj g.l0<|Cj g.b1<|Cj g.l1<|Cj g.g1<|Cj g.g2<|Cj g.g3<|Cj g.g4<|Cj g.s1<|Cj g.s2<|Cj g.s3<|Cj g.w1<|Cj g.w2<|Cj g.w3<|Cj g.w4<|Cj g.lt<|Cj @e9<|Cj @eB<|Cj @eH<|Cj d<|@cG) (k1 ?_);refine bL (λj t=>∃(i:Nat) (o:Sg),i+j=l.length/\t=⟨[(0,.ptr 4 0),(23,.p (.slice f (cU l))),(24,.p (.int .i64 l.length)),(25,.p (.int .i64 i))],L++Hc p o,n,[n,n,n]⟩) ?_ l.length _ ⟨0,o,ae,rfl⟩;rintro j t ⟨i,o,F,rfl⟩;refine aH I6.eq_1 ?_;rcases bS i l.length with c|c
  .have d:(i:Int)<l.length:=ae;have u:(0:Int)<=i:=ae;have e:=mG l i c;generalize l[i]=q at e;obtain⟨x,name,max,a,b,A,m,B,v⟩:=q;simp only[cl.cs]at e;by_cases D:x=1
   .refine gN (Cj g.n0<|Cj g.b0<|Cj g.l0<|Cj g.b1<|Cj g.l1<|Cj g.g1<|Cj g.g2<|Cj g.g3<|Cj g.g4<|Cj g.s1<|Cj g.s2<|Cj g.s3<|Cj g.w1<|Cj g.w2<|Cj g.w3<|Cj g.w4<|Cj g.lt<|Cj @e9<|Cj @eB<|Cj @eH<|Cj d<|Cj u<|Cj e<|Cj @cG<|(bU D)) (k1 ?_);all_goals first
     |contradiction
     |exact LI.next (m':=j-1) ae ⟨i+1,_,ae,rfl⟩
   .refine gN (Cj g.n0<|Cj g.b0<|Cj g.l0<|Cj g.b1<|Cj g.l1<|Cj g.g1<|Cj g.g2<|Cj g.g3<|Cj g.g4<|Cj g.s1<|Cj g.s2<|Cj g.s3<|Cj g.w1<|Cj g.w2<|Cj g.w3<|Cj g.w4<|Cj g.lt<|Cj @e9<|Cj @eB<|Cj @eH<|Cj d<|Cj u<|Cj e<|Cj @cG<|D) (k1 ?_);all_goals first
     |contradiction
     |exact LI.next (m':=j-1) ae ⟨i+1,_,ae,rfl⟩
  .have d:¬(i:Int)<l.length:=ae;refine gN (Cj g.n0<|Cj g.b0<|Cj g.l0<|Cj g.b1<|Cj g.l1<|Cj g.g1<|Cj g.g2<|Cj g.g3<|Cj g.g4<|Cj g.s1<|Cj g.s2<|Cj g.s3<|Cj g.w1<|Cj g.w2<|Cj g.w3<|Cj g.w4<|Cj g.lt<|Cj @e9<|Cj @eB<|Cj @eH<|d) (k1 ?_);all_goals exact⟨(_,_),rfl,rfl⟩
include hp in
theorem N3:∀(n:Nat) (s:cl),s.sz<=n->n<=1048576->s.ok->Qq s->ZJ p s
 |0,s,o,_,_,_=>by have:=s.B9;omega
 |n+1,.mk t name max a b f c q e,o,A,d,g=>by
  simp only[cl.ok]at d;obtain⟨_,_,_,⟨_,h⟩,⟨_,i⟩,j,k⟩:=d;simp only[cl.sz]at o;rw[Qq]at g;obtain⟨u,v,w⟩:=g;have r:∀(m:Bool) (l:List cl),eZ l<=n->dU l->uS l->Ug p m l:=λm l x y z=>
   yZ hp m l (by have:=eu l;omega) λs d=>N3 n s (ep (j6 d) x) ae (jC y s d) (AU z s d)
  exact Xp hp t name max a b f c q e (by simpa[jL]using h) (by simpa[jL]using i) u (r f c ae j v) (r q e ae k w)
include hp in
theorem Ww(f:Bool)(l:List cl)(b:eZ l<=1048576)(c:dU l)(d:uS l):Ug p f l:=
 yZ hp f l (by have:=eu l;omega) λs a=>N3 hp _ s (j6 a) b (jC c s a) (AU d s a)
end
end
section
open Go Go.Dv
abbrev Sg0:Sg:=⟨0,λ_=>none,0,λ_=>none,0,λ_=>none⟩
def L1(p:Pc):(fG p).all (below 1 dep)=true:=rfl
def NM(p:Pc)(h:o7 p):∃r:PV×Int,PS tb 132 [.agg (eV p)] (.tuple [r.1,.int .i64 r.2])/\(r.1=.undef\/∃n f,r.1=.map n f):=by
 obtain⟨K,u,d⟩:=yC p h;have e:=Qw p h;have x:=BJ p h;generalize yU p=a at e x;have w:W tb Kk.body {env:=ai 0 ([PV.agg (eV p)].map aI),heap:=[],next:=0,marks:=[0]} (eX Kk.results λv s=>∃n:{r:PV×Int//r.1=.undef\/∃n f,r.1=.map n f},aS s.heap dep v=some (.tuple [n.1.1,.int .i64 n.1.2])):=by
  unfold Kk;dsimp only[List.map,aI,ai,eV];dsimp only[eV]at u e;by_cases z:K=0
  case neg=>
   refine gP z u (k1 ?_);all_goals first
    |contradiction
    |exact⟨⟨(_,_),.inl rfl⟩,rfl⟩
  have d:=d z;refine gP (bA (bU z) @cN) u (k1 ?_);have A:=L1 p;have g:=(FM 5).cg A;have E:∀s,ag (Hc (fG p) s) 5=none:=g.n0;have F:∀s,aD 5 (Hc (fG p) s)=Hc (fG p) s:=g.b0;have G:∀s,de 5 (Hc (fG p) s)=true:=g.l0;have l:∀s,nb (Hc (fG p) s)=5:=λ_=>rfl
  have L:∀s,ag (Hc (fG p) s) 4=some (.var false [.ptr 1 0,.ptr 2 0,.ptr 3 0]):=λ_=>rfl
  have H:∀s,ag (Hc (fG p) s) 0=some (.var false [.p (.str p.name),.p (.slice p.fp (im p.ps)),.p (.slice p.fb (cU p.body))]):=λ_=>rfl
  have M:∀s:Sg,ag (Hc (fG p) s) 3=some (.map false (.strs s.na (nL s.a))):=λ_=>rfl
  have N:∀s,jJ (Hc (fG p) s) 5=Hc (fG p) s:=λ_=>rfl
  refine bL (λj o=>∃(i:Nat) (s:Sg),i+j=p.ps.length/\o=⟨[(1,.ptr 0 0),(5,.ptr 4 0),(23,.p (.slice p.fp (im p.ps))),(24,.p (.int .i64 p.ps.length)),(25,.p (.int .i64 i))],Hc (fG p) s,5,[0]⟩) ?_ p.ps.length _ ⟨0,Sg0,ae,rfl⟩;rintro j o ⟨i,s,O,rfl⟩;refine aH JE.eq_1 ?_;have P:=h.pl;rcases bS i p.ps.length with c|c
  .have b:(i:Int)<p.ps.length:=ae;have q:(0:Int)<=i:=ae;have t:=n8 p.ps i c;have Q:=tR A ((FM 5).cons (k:=.var false [.p (.str p.ps[i].name),.p (.int .i64 p.ps[i].ty)])) s p.ps[i].name p.ps[i].ty;refine hR (rG b q t @cN E F G l N) trivial Q (k2 ?_ ?_)<;>(repeat with_reducible intro R)
   all_goals first
    |exact⟨⟨(_,_),.inl rfl⟩,rfl⟩
    |exact LI.next (m':=j-1) ae ⟨i+1,_,ae,rfl⟩
  .have b:¬(i:Int)<p.ps.length:=ae;refine gP (qF b E F G l H @au) e (k1 ?_);refine bL (λj o=>∃(i:Nat) (n:Nat) (m:Qt),i+j=a.length/\o=⟨[(1,.ptr 0 0),(5,.ptr 4 0),(8,.ptr 5 0),(41,.p (.slice false (aF a))),(42,.p (.int .i64 a.length)),(43,.p (.int .i64 i))],(5,.map false (.strs n (tP m)))::Hc (fG p) s,6,[0]⟩) ?_ a.length _ ⟨0,0,λ_=>none,ae,rfl⟩;rintro j o ⟨i,n,m,O,rfl⟩;refine aH JK.eq_1 ?_;have B:aD 6 (Hc (fG p) s)=Hc (fG p) s:=g.b1 s;have C:de 6 (Hc (fG p) s)=true:=g.l1 s;rcases bS i a.length with c|c
   .have b:(i:Int)<a.length:=ae;have q:(0:Int)<=i:=ae;have t:=dN a i c;cases I:m a[i]with
    |none=>
     have D:tP m a[i]=none:=by simp[tP,I]
     refine gN (rG b q t D @au B C l @eH) (k1 ?_);all_goals exact LI.next (m':=j-1) ae ⟨i+1,_,_,ae,rfl⟩
    |some y=>
     have D:tP m a[i]=some (.one (.bool y)):=by simp[tP,I]
     refine hN (rG b q t D @au B C l @eH) (k2 ?_ ?_)<;>(repeat with_reducible intro R)
     all_goals first
      |exact⟨⟨(_,_),.inl rfl⟩,rfl⟩
      |exact LI.next (m':=j-1) ae ⟨i+1,_,_,ae,rfl⟩
   .have b:¬(i:Int)<a.length:=ae;obtain⟨⟨r,U⟩,J⟩:=Ww A p.fb p.body h.bz h.bo d _ _ s ((FM 5).cons (k:=.map false (.strs n (tP m))));dsimp only at J;refine gR (qF b B C l H M L) trivial J (k1 ?_);all_goals exact⟨⟨(_,_),.inr ⟨_,_,rfl⟩⟩,rfl⟩
 obtain⟨⟨n,S⟩,h⟩:=jg (T:=tb) (f:=132) (af:=Kk) rfl rfl w;exact⟨n,h,S⟩
end
section
open Go Go.Dv
def D5(p:Pc)(h:o7 p):∃r:Int,PS tb 111 [.agg (eV p)] (.int .i64 r)/\True:=by
 obtain⟨⟨x,r⟩,a,b⟩:=NM p h;dsimp only at a b;refine mr (af:=VG) rfl rfl ?_;unfold VG;dsimp only[List.map,aI,ai,eV];dsimp only[eV]at a;rcases b with rfl|⟨n,f,rfl⟩
 .refine gP trivial a (k1 ?_);all_goals exact⟨⟨_,trivial⟩,rfl⟩
 .refine gP trivial a (k1 ?_);all_goals exact⟨⟨_,trivial⟩,rfl⟩
def Ro(p:Pc)(h:o7 p)(o:Bool)(args:List dY)(x:args.length<=1048576)(t:∀v∈args,v.s.size<=1048576):∃r:Int,PS tb 80 [.agg (eV p),.slice o (cy args)] (.int .i64 r)/\(r=0->args.length=p.ps.length):=by
 obtain⟨u,f,_⟩:=D5 p h;have a:=h.pl;refine mr (af:=a80) rfl rfl ?_;unfold a80;dsimp only[List.map,aI,ai,eV];dsimp only[eV]at f;by_cases n:u=0
 case neg=>
  refine gP (dS n @b7 @cN) f (k1 ?_);all_goals first
   |contradiction
   |exact⟨⟨_,by intro h;omega⟩,rfl⟩
 by_cases w:args.length=p.ps.length
 case neg=>
  have b:¬(args.length:Int)=p.ps.length:=ae;refine gP (fW (bU n) b @b7 @cN) f (k1 ?_);all_goals first
   |contradiction
   |exact⟨⟨_,by intro h;omega⟩,rfl⟩
 have b:(args.length:Int)=p.ps.length:=ae;refine gP (fW (bU n) (bU b) @b7 @cN) f (k1 ?_);refine bL (λj q=>∃i:Nat,i+j=args.length/\q=⟨[(2,.ptr 0 0),(20,.p (.slice o (cy args))),(21,.p (.int .i64 args.length)),(22,.p (.int .i64 i))],[(0,.var false [.p (.str p.name),.p (.slice p.fp (im p.ps)),.p (.slice p.fb (cU p.body))])],1,[0]⟩) ?_ args.length _ ⟨0,ae,rfl⟩;rintro j q ⟨i,y,rfl⟩;refine aH Od.eq_1 ?_;rcases bS i args.length with c|c
 .have d:(i:Int)<args.length:=ae;have g:(0:Int)<=i:=ae;have k:=uN args i c;have l:=n8 p.ps i ae;have m:(i:Int)<p.ps.length:=ae;have a:=MK args[i].s (t _ (List.getElem_mem c));by_cases k1:args[i].k=1
  .have k2:¬args[i].k=2:=ae;refine hP (rG d g k l m (bU k1) k2 @b7 @cN) a (k3 ?_ ?_ ?_)<;>(repeat with_reducible intro s)
   all_goals first
    |contradiction
    |exact⟨⟨_,by intro h;omega⟩,rfl⟩
    |exact LI.next (m':=j-1) ae ⟨i+1,ae,rfl⟩
  .by_cases k2:args[i].k=2
   .refine hP (rG d g k l m k1 (bU k2) @b7 @cN) a (k4 ?_ ?_ ?_ ?_)<;>(repeat with_reducible intro s)
    all_goals first
     |contradiction
     |exact⟨⟨_,by intro h;omega⟩,rfl⟩
     |exact LI.next (m':=j-1) ae ⟨i+1,ae,rfl⟩
   .repeat'(first|exact a|(simp(disch:=omega) only[go_sem,seval,reduceCtorEq,d,g,k,l,m,k1,k2,b7,cN])|with_reducible exact Ev.mk|apply cT|((first|apply aY|apply aQ)<;>intro e s<;>(simp(disch:=omega) only[go_sem,seval,reduceCtorEq,d,g,k,l,m,k1,k2,b7,cN,e])<;>clear e))
    all_goals first
     |contradiction
     |exact⟨⟨_,by intro h;omega⟩,rfl⟩
     |exact LI.next (m':=j-1) ae ⟨i+1,ae,rfl⟩
 .have d:¬(i:Int)<args.length:=ae;refine gN d (k1 ?_);exact⟨⟨_,λ_=>w⟩,rfl⟩
end
end Go.Dv.Tryz
