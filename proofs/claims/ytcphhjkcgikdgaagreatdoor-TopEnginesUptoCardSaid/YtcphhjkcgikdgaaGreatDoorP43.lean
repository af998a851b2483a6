/- Lemmas for the law of this claim. -/
import Derived.Test.YtcphhjkcgikdgaaGreatDoorP34
import Derived.Test.YtcphhjkcgikdgaaGreatDoorP29
import Derived.Test.YtcphhjkcgikdgaaGreatDoorP42
import Derived.Test.YtcphhjkcgikdgaaGreatDoorP31
import Derived.Test.YtcphhjkcgikdgaaGreatDoorP41
import Derived.Test.YtcphhjkcgikdgaaGreatDoorP36
set_option linter.all false
set_option maxRecDepth 100000
set_option maxHeartbeats 8000000
namespace Go.Dv.Tryz
section
open Go Go.Dv
abbrev I4:=Int×Int×Int×Int
abbrev kO(c:I4):List PV:=[.int .i64 c.1,.int .i64 c.2.1,.int .i64 c.2.2.1,.int .i64 c.2.2.2]
def Dj{f:FuncId}{af:av}(b:tb.A f=some af){args:List PV}(e:args.length=af.nparams)
  (h:W tb af.body {env:=ai 0 (args.map aI),heap:=[],next:=0,marks:=[0]} (eX af.results λv s=>∃n:I4,aS s.heap dep v=some (.agg (kO n))))(a:af.rs=false:=by rfl):∃n:I4,PS tb f args (.agg (kO n)):=by
 obtain⟨n,h⟩:=jg (T:=tb) b e h (hrs:=a);exact⟨n,h⟩
def Ae:∀(k:Nat) (e:bj),e.sz<=k->k<=1048576->∃r:Int,PS tb 170 [.agg [.int .i64 e.op,.int .i64 e.n,.str e.s,.slice e.f (cn e.xs)]] (.int .i64 r)/\True
 |0,e,a,_=>by cases e;simp[bj.sz]at a
 |k+1,e,a,u=>by
  have h:e.xs.length<=1048576:=by have:=bQ e.xs;rw[bj.gj]at a;omega
  have b:dE e.xs<=k:=by rw[bj.gj]at a;omega
  have o:∀(f:Int) (q:Nat),W tb (.loop Ej) ⟨[(3,.p (.int .i64 f)),(13,.p (.slice e.f (cn e.xs))),(14,.p (.int .i64 e.xs.length)),(15,.p (.int .i64 0))],[],q,[0]⟩
    (BK 1 (SK tb (.seq (.bE false [(.o 24 (.move (.t 3)),[3]),(.o 25 (.jM false (.t 24) [.i 16385]),[24]),(.o 2 (.move (.t 25)),[25])]) .ret) (eX [gB.tmp 2] λv s=>∃n:{n:Int//True},aS s.heap 5 v=some (.int .i64 n.1)))):=by
   intro f q;refine bL (λj l=>∃(i:Nat) (n:Int) (q:Nat),i+j=e.xs.length/\l=⟨[(3,.p (.int .i64 n)),(13,.p (.slice e.f (cn e.xs))),(14,.p (.int .i64 e.xs.length)),(15,.p (.int .i64 i))],[],q,[0]⟩) ?_ e.xs.length _ ⟨0,f,q,ae,rfl⟩;rintro j l ⟨i,n,q,w,rfl⟩;refine aH Ej.eq_1 ?_;rcases bS i e.xs.length with c|c
   .have g:(i:Int)<e.xs.length:=ae;have p:(0:Int)<=i:=ae;have m:=kT e.xs i c;rw[bj.As]at m;obtain⟨r,t,_⟩:=Ae k e.xs[i] (ep (lE (List.getElem_mem c)) b) ae;refine gP (fW g p m @bB) t (k1 ?_);exact LI.next (m':=j-1) ae ⟨i+1,_,_,ae,rfl⟩
   .have g:¬(i:Int)<e.xs.length:=ae;refine gN g (k1 ?_);all_goals exact⟨⟨_,trivial⟩,rfl⟩
  refine mr (af:=SQ) rfl rfl ?_;unfold SQ;dsimp only[List.map,aI,ai];refine hN @bB (k4 ?_ ?_ ?_ ?_)<;>(repeat with_reducible intro x)
  all_goals exact o _ _
section
variable(c d:I4)
def U8:∃r:I4,PS tb 134 [.agg (kO c),.agg (kO d)] (.agg (kO r)):=by
 refine Dj (af:=TH) rfl rfl ?_;unfold TH;dsimp only[List.map,aI,ai,kO];refine gN trivial (k1 ?_);refine bL (λj a=>∃(i:Nat) (b e f g:Int),i+j=4/\a=⟨[(2,.ptr 0 0),(3,.ptr 1 0),(4,.ptr 2 0),(6,.p (.int .i64 i))],[(2,.var false [.p (.int .i64 0),.p (.int .i64 0),.p (.int .i64 0),.p (.int .i64 0)]),(1,.var false [.p (.int .i64 d.1),.p (.int .i64 d.2.1),.p (.int .i64 d.2.2.1),.p (.int .i64 d.2.2.2)]),(0,.var false [.p (.int .i64 b),.p (.int .i64 e),.p (.int .i64 f),.p (.int .i64 g)])],3,[0]⟩) ?_ 4 _ ⟨0,_,_,_,_,ae,rfl⟩;rintro j a ⟨i,b,e,f,g,k,rfl⟩;refine aH JA.eq_1 ?_;have h:i=0\/i=1\/i=2\/i=3\/i=4:=ae;rcases h with rfl|rfl|rfl|rfl|rfl
 .refine gN eW (k1 ?_);all_goals exact LI.next (m':=3) ae ⟨1,_,_,_,_,ae,rfl⟩
 .refine gN eW (k1 ?_);all_goals exact LI.next (m':=2) ae ⟨2,_,_,_,_,ae,rfl⟩
 .refine gN eW (k1 ?_);all_goals exact LI.next (m':=1) ae ⟨3,_,_,_,_,ae,rfl⟩
 .refine gN eW (k1 ?_);all_goals exact LI.next (m':=0) ae ⟨4,_,_,_,_,ae,rfl⟩
 .refine gN eW (k1 ?_);all_goals exact⟨(_,_,_,_),rfl⟩
def Ng:∃r:I4,PS tb 171 [.agg (kO c),.agg (kO d)] (.agg (kO r)):=by
 refine Dj (af:=a171) rfl rfl ?_;unfold a171;dsimp only[List.map,aI,ai,kO];refine gN trivial (k1 ?_);refine bL (λj a=>∃(i:Nat) (b e f g:Int),i+j=4/\a=⟨[(2,.ptr 0 0),(3,.ptr 1 0),(4,.ptr 2 0),(6,.p (.int .i64 i))],[(2,.var false [.p (.int .i64 0),.p (.int .i64 0),.p (.int .i64 0),.p (.int .i64 0)]),(1,.var false [.p (.int .i64 d.1),.p (.int .i64 d.2.1),.p (.int .i64 d.2.2.1),.p (.int .i64 d.2.2.2)]),(0,.var false [.p (.int .i64 b),.p (.int .i64 e),.p (.int .i64 f),.p (.int .i64 g)])],3,[0]⟩) ?_ 4 _ ⟨0,_,_,_,_,ae,rfl⟩;rintro j a ⟨i,b,e,f,g,k,rfl⟩;refine aH Jf.eq_1 ?_;have h:i=0\/i=1\/i=2\/i=3\/i=4:=ae;rcases h with rfl|rfl|rfl|rfl|rfl
 .refine gN eW (k1 ?_);all_goals exact LI.next (m':=3) ae ⟨1,_,_,_,_,ae,rfl⟩
 .refine gN eW (k1 ?_);all_goals exact LI.next (m':=2) ae ⟨2,_,_,_,_,ae,rfl⟩
 .refine gN eW (k1 ?_);all_goals exact LI.next (m':=1) ae ⟨3,_,_,_,_,ae,rfl⟩
 .refine gN eW (k1 ?_);all_goals exact LI.next (m':=0) ae ⟨4,_,_,_,_,ae,rfl⟩
 .refine gN eW (k1 ?_);all_goals exact⟨(_,_,_,_),rfl⟩
def Rf(n:Int):∃r:I4,PS tb 172 [.agg (kO c),.int .i64 n] (.agg (kO r)):=by
 refine Dj (af:=UD) rfl rfl ?_;unfold UD;dsimp only[List.map,aI,ai,kO];refine gN trivial (k1 ?_);refine bL (λj a=>∃(i:Nat) (b e f g:Int),i+j=4/\a=⟨[(1,.p (.int .i64 n)),(2,.ptr 0 0),(4,.ptr 1 0),(6,.p (.int .i64 i))],[(1,.var false [.p (.int .i64 0),.p (.int .i64 0),.p (.int .i64 0),.p (.int .i64 0)]),(0,.var false [.p (.int .i64 b),.p (.int .i64 e),.p (.int .i64 f),.p (.int .i64 g)])],2,[0]⟩) ?_ 4 _ ⟨0,_,_,_,_,ae,rfl⟩;rintro j a ⟨i,b,e,f,g,k,rfl⟩;refine aH J5.eq_1 ?_;have h:i=0\/i=1\/i=2\/i=3\/i=4:=ae;rcases h with rfl|rfl|rfl|rfl|rfl
 .refine gN eW (k1 ?_);all_goals exact LI.next (m':=3) ae ⟨1,_,_,_,_,ae,rfl⟩
 .refine gN eW (k1 ?_);all_goals exact LI.next (m':=2) ae ⟨2,_,_,_,_,ae,rfl⟩
 .refine gN eW (k1 ?_);all_goals exact LI.next (m':=1) ae ⟨3,_,_,_,_,ae,rfl⟩
 .refine gN eW (k1 ?_);all_goals exact LI.next (m':=0) ae ⟨4,_,_,_,_,ae,rfl⟩
 .refine gN eW (k1 ?_);all_goals exact⟨(_,_,_,_),rfl⟩
end
noncomputable def XU (c d:I4):I4:=Classical.epsilon λr=>PS tb 134 [.agg (kO c),.agg (kO d)] (.agg (kO r))
def zY(a b e f g h i j:Int):PS tb 134 [.agg [.int .i64 a,.int .i64 b,.int .i64 e,.int .i64 f],.agg [.int .i64 g,.int .i64 h,.int .i64 i,.int .i64 j]] (.agg (kO (XU (a,b,e,f) (g,h,i,j)))):=od (U8 (a,b,e,f) (g,h,i,j))
noncomputable def YL (c d:I4):I4:=Classical.epsilon λr=>PS tb 171 [.agg (kO c),.agg (kO d)] (.agg (kO r))
def Po(a b e f g h i j:Int):PS tb 171 [.agg [.int .i64 a,.int .i64 b,.int .i64 e,.int .i64 f],.agg [.int .i64 g,.int .i64 h,.int .i64 i,.int .i64 j]] (.agg (kO (YL (a,b,e,f) (g,h,i,j)))):=od (Ng (a,b,e,f) (g,h,i,j))
noncomputable def X9 (c:I4) (n:Int):I4:=Classical.epsilon λr=>PS tb 172 [.agg (kO c),.int .i64 n] (.agg (kO r))
def Ph(a b e f n:Int):PS tb 172 [.agg [.int .i64 a,.int .i64 b,.int .i64 e,.int .i64 f],.int .i64 n] (.agg (kO (X9 (a,b,e,f) n))):=od (Rf (a,b,e,f) n)
def QU(e:Int)(name:ByteArray)(max:Int)(a b:bj)(f:Bool)(i:List cl)(g:Bool)(v:List cl)(C:a.sz<=1048576)(D:b.sz<=1048576)(k:∃r:I4,PS tb 114 [.slice f (cU i)] (.agg (kO r)))(w:∃r:I4,PS tb 114 [.slice g (cU v)] (.agg (kO r))):
  ∃r:I4,PS tb 135 [.agg (qy e name max a b f i g v)] (.agg (kO r)):=by
 obtain⟨G,t,_⟩:=Ae a.sz a (Nat.le_refl _) C;obtain⟨H,h,_⟩:=Ae b.sz b (Nat.le_refl _) D;obtain⟨⟨I,J,K,L⟩,E⟩:=k;obtain⟨⟨M,N,O,P⟩,F⟩:=w;dsimp only[kO]at E F;refine Dj (af:=Vy) rfl rfl ?_;unfold Vy;dsimp only[List.map,aI,ai];by_cases l:e=8
 .have j:¬e=3:=ae;have m:¬e=4:=ae;have u:¬e=7:=ae;have x:¬e=5:=ae;have B:¬e=6:=ae;refine gN (qF (bU l) j m u x B eW) (k1 ?_);all_goals exact⟨(_,_,_,_),rfl⟩
 by_cases j:e=3
 .refine gP (dS l (bU j) eW) (bA t h) (k1 ?_);all_goals exact⟨(_,_,_,_),rfl⟩
 by_cases m:e=4
 .refine gP (fW l j (bU m) eW) (bA t h) (k1 ?_);all_goals exact⟨(_,_,_,_),rfl⟩
 by_cases u:e=7
 .refine gP (dP l j m (bU u) eW) (bA t h) (k1 ?_);all_goals exact⟨(_,_,_,_),rfl⟩
 by_cases x:e=5
 .refine gP (vE l j m u (bU x) eW) (dP t E F (λ{n o p q s y z A}=>Po n o p q s y z A) (λ{n o p q s y z A}=>zY n o p q s y z A)) (k1 ?_);all_goals exact⟨(_,_,_,_),rfl⟩
 by_cases B:e=6
 .refine gP (qF l j m u x (bU B) eW) (dP t h E (λ{n o p q s}=>Ph n o p q s) (λ{n o p q s y z A}=>zY n o p q s y z A)) (k1 ?_);all_goals exact⟨(_,_,_,_),rfl⟩
 .refine gP (qF l j m u x B eW) (bA t h) (k1 ?_);all_goals exact⟨(_,_,_,_),rfl⟩
end
section
open Go Go.Dv
def El(f:Bool)(l:List cl)(h:l.length<=1048576)(u:∀s∈l,∃r:I4,PS tb 135 [.agg s.cs] (.agg (kO r))):∃r:I4,PS tb 114 [.slice f (cU l)] (.agg (kO r)):=by
 refine Dj (af:=VF) rfl rfl ?_;unfold VF;dsimp only[List.map,aI,ai];refine gN @cG (k1 ?_);refine bL (λj k=>∃(i:Nat) (m n o p:Int),i+j=l.length/\k=⟨[(2,.ptr 0 0),(3,.ptr 1 0),(6,.p (.slice f (cU l))),(7,.p (.int .i64 l.length)),(8,.p (.int .i64 i))],[(1,.var false [.p (.int .i64 m),.p (.int .i64 n),.p (.int .i64 o),.p (.int .i64 p)]),(0,.var false [.p (.int .i64 0),.p (.int .i64 0),.p (.int .i64 0),.p (.int .i64 0)])],2,[0]⟩) ?_ l.length _ ⟨0,_,_,_,_,ae,rfl⟩;rintro j k ⟨i,m,n,o,p,F,rfl⟩;refine aH K6.eq_1 ?_;rcases bS i l.length with c|c
 .have e:(i:Int)<l.length:=ae;have v:(0:Int)<=i:=ae;have g:=mG l i c;obtain⟨⟨G,H,I,J⟩,d⟩:=u l[i] (List.getElem_mem c);generalize l[i]=q at g d;obtain⟨K,name,max,a,b,L,t,M,w⟩:=q;simp only[cl.cs]at g d;dsimp only[kO]at d;refine gP (dP e v g @cG eW) (bA d (λ{x y z A B C D E}=>zY x y z A B C D E)) (k1 ?_);all_goals exact LI.next (m':=j-1) ae ⟨i+1,_,_,_,_,ae,rfl⟩
 .have e:¬(i:Int)<l.length:=ae;refine gN (bA e eW) (k1 ?_);all_goals exact⟨(_,_,_,_),rfl⟩
def Gb:∀(n:Nat) (s:cl),s.sz<=n->n<=1048576->s.ok->∃r:I4,PS tb 135 [.agg s.cs] (.agg (kO r))
 |0,s,p,_,_=>by have:=s.B9;omega
 |n+1,.mk t name max a b f c g d,p,w,e=>by
  simp only[cl.ok]at e;obtain⟨_,_,_,⟨_,i⟩,⟨_,j⟩,k,m⟩:=e;simp only[cl.sz]at p;have q:∀(o:Bool) (l:List cl),eZ l<=n->dU l->∃r:I4,PS tb 114 [.slice o (cU l)] (.agg (kO r)):=λo l u v=>
   El o l (by have:=eu l;omega) λs e=>Gb n s (ep (j6 e) u) ae (jC v s e)
  have h:=QU t name max a b f c g d (by simpa[jL]using i) (by simpa[jL]using j) (q f c ae k) (q g d ae m);simpa only[cl.cs]using h
def Q4(f:Bool)(l:List cl)(b:eZ l<=1048576)(c:dU l):∃r:I4,PS tb 114 [.slice f (cU l)] (.agg (kO r)):=
 El f l (by have:=eu l;omega) λs a=>Gb _ s (j6 a) b (jC c s a)
def Nk(p:Pc)(name:p.name.size<=1048576)(d:eZ p.body<=1048576)(e:dU p.body)(hD:∃r:Int,PS tb 113 [.agg (eV p)] (.int .i64 r)/\True):∃r:Int,PS tb 81 [.agg (eV p)] (.int .i64 r)/\True:=by
 obtain⟨r,b,_⟩:=hD;obtain⟨⟨f,g,h,i⟩,c⟩:=Q4 p.fb p.body d e;dsimp only[kO]at c;refine mr (af:=ZN) rfl rfl ?_;unfold ZN;dsimp only[List.map,aI,ai,eV];dsimp only[eV]at b;repeat'(first|exact b|exact c|(simp(disch:=omega) only[go_sem,seval,reduceCtorEq])|with_reducible exact Ev.mk|apply cT|((first|apply aY|apply aQ)<;>intro a j<;>(simp(disch:=omega) only[go_sem,seval,reduceCtorEq,a])<;>clear a))
 all_goals exact⟨⟨_,trivial⟩,rfl⟩
end
section
open Go Go.Dv
def G3{T:dw}{f:FuncId}{args:List PV}{r b:PV}(h:PS T f args r)(a:PS T f args b):r=b:=by
 obtain⟨n,h⟩:=h;obtain⟨m,a⟩:=a;have d:=(gk T.A T.X (mz n m)).pure _ _ _ h;have c:=(gk T.A T.X (mA n m)).pure _ _ _ a;rw[d]at c;exact Hg c
def LU(p:Pc)(h:o7 p):∃r:Int,PS tb 113 [.agg (eV p)] (.int .i64 r)/\True:=by
 obtain⟨r,a,_⟩:=D5 p h;obtain⟨n,k,b,c⟩:=Q7 p h;refine mr (af:=Ua) rfl rfl ?_;unfold Ua;dsimp only[List.map,aI,ai,eV];dsimp only[eV]at a c;refine hP trivial (bA a c) (k3 ?_ ?_ ?_)<;>(repeat with_reducible intro d)
 all_goals exact⟨⟨_,trivial⟩,rfl⟩
def Jz(p:Pc)(h:o7 p):∃r:Int,PS tb 81 [.agg (eV p)] (.int .i64 r)/\True:=Nk p h.nm h.bz h.bo (LU p h)
structure KB(t:Tx):Prop where
 al:t.args.length<=1048576
 vs:∀v∈t.args,er v
 ft:oO t.dx
def YU(p:Pc)(h:o7 p)(t:Tx)(a:KB t):Ij p t:=by
 obtain⟨e,b,f⟩:=Ro p h t.fa t.args a.al λv g=>(a.vs v g).2.2
 obtain⟨c,i,_⟩:=Jz p h;refine⟨⟨c,i⟩,⟨e,b⟩,λj=>?_,h.bo,ep h.bz ae,h.pl,a.vs,a.ft⟩;have k:PS tb 80 [.agg (eV p),.slice t.fa (cy t.args)] (.int .i64 (vJ p t.fa t.args)):=od (p:=λe=>PS tb 80 [.agg (eV p),.slice t.fa (cy t.args)] (.int .i64 e)) ⟨e,b⟩;have d:=G3 k b;simp only[PV.int.injEq,true_and]at d;exact f (by rw[<-d];exact j)
def Uf{a:List Pc}(b:a.length<=1048576)(h:∀p∈a,o7 p){t:Tx}(c:KB t):zX a t:=⟨b,λp d=>YU p (h p d) t c⟩
end
section
open Go Go.Dv
def j7{x:List PV}:∀{a:List (List PV)},x∈a->c8 x<=ij a
 |[],h=>by simp at h
 |y::r,h=>by
  simp only[ij];rcases List.mem_cons.1 h with rfl|h
  .omega
  .have:=j7 h;omega
def mU:∀{xs:List (List PV)},(∀x∈xs,1<=c8 x)->xs.length<=ij xs
 |[],_=>Nat.zero_le _
 |x::r,h=>by
  have b:=h x az;have c:=mU (xs:=r) λy a=>h y (by simp[a])
  simp only[List.length_cons,ij];omega
def A4(y:PV):1<=dG y:=by cases y<;>simp[dG]
def oC{f:Type}{c:f->List PV}{P:f->Prop}:∀(d:List (List PV)),(∀x∈d,∃a,x=c a/\P a)->∃l:List f,d=l.map c/\∀a∈l,P a
 |[],_=>⟨[],rfl,az⟩
 |x::d,h=>by
  obtain⟨a,g,i⟩:=h x az;obtain⟨l,j,k⟩:=oC (c:=c) (P:=P) d λy m=>h y (by simp[m])
  exact⟨a::l,by rw[g,j];rfl,λb n=>by rcases List.mem_cons.1 n with rfl|e;exact i;exact k b e⟩
def Ky{l:List Go.Dv.Sh}{a:List (List PV)}(c:∀x∈a,x.length=l.length)(d:∀(i:Nat) x (j:Nat) s y,a[i]?=some x->l[j]?=some s->x[j]?=some y->Fit s y):∀x∈a,Fits l x:=λx b=>⟨c x b,λj s y e f=>by
 obtain⟨i,g⟩:=List.mem_iff_getElem?.1 b;exact d i x j s y g e f⟩
def sN{l:List Go.Dv.Sh}{y:PV}(h:Fit (.slice l) y):∃a,y=.slice false a/\∀x∈a,Fits l x:=by
 cases h with
 |slice l a h b c=>exact⟨a,rfl,Ky b c⟩
def Oo{t:Nat}{y:PV}(h:Fit (.rows t) y):∃l a,uw t=some l/\y=.slice false a/\∀x∈a,Fits l x:=by
 cases h with
 |rows t l a b h c d=>exact⟨l,a,b,rfl,Ky c d⟩
def mZ{y:PV}(h:Fit (.int .i64) y):∃n,y=.int .i64 n/\fA n:=by
 cases h with
 |int k n h=>
  refine⟨n,rfl,?_⟩;simp[Lit.wf,IntKind.min,IntKind.max,IntKind.signed,IntKind.bits]at h;unfold fA;omega
def rz{y:PV}(h:Fit .str y):∃s,y=.str s:=by
 cases h with
 |str s h=>exact⟨s,rfl⟩
def YP{y:PV}(h:Fit .bool y):∃b,y=.bool b:=by
 cases h with
 |bool b=>exact⟨b,rfl⟩
def Bt:∀l:List bj,cn l=l.map bj.cs
 |[]=>by simp[cn]
 |e::r=>by simp[cn,Bt r]
def BM:∀l:List cl,cU l=l.map cl.cs
 |[]=>by simp[cU]
 |e::r=>by simp[cU,BM r]
def O7:∀(l:List bj),(∀e∈l,e.sz<=c8 e.cs/\(c8 e.cs<=jL->e.ok))->dE l<=ij (cn l)/\(ij (cn l)<=jL->lu l)
 |[],_=>⟨by simp[dE],λ_=>by simp[lu]⟩
 |e::r,h=>by
  obtain⟨d,a⟩:=h e az;obtain⟨f,b⟩:=O7 r λx c=>h x (by simp[c])
  simp only[dE,cn,ij,lu];exact⟨ae,λg=>⟨a ae,b ae⟩⟩
def OD:∀(l:List cl),(∀e∈l,e.sz<=c8 e.cs/\(c8 e.cs<=jL->e.ok))->eZ l<=ij (cU l)/\(ij (cU l)<=jL->dU l)
 |[],_=>⟨by simp[eZ],λ_=>by simp[dU]⟩
 |e::r,h=>by
  obtain⟨d,a⟩:=h e az;obtain⟨f,b⟩:=OD r λx c=>h x (by simp[c])
  simp only[eZ,cU,ij,dU];exact⟨ae,λg=>⟨a ae,b ae⟩⟩
def Fl:∀(n:Nat) (y:PV),dG y<=n->Fit (.rows 88) y->∃l:List bj,y=.slice false (cn l)/\dE l<=dG y/\(dG y<=jL->lu l)
 |0,y,h,_=>by have:=A4 y;omega
 |n+1,y,o,h=>by
  obtain⟨D,p,g,rfl,q⟩:=Oo h;simp only[uw,ay]at g;subst g;simp only[dG]at o⊢;obtain⟨l,i,r⟩:=oC (c:=bj.cs) (P:=λe=>e.sz<=c8 e.cs/\(c8 e.cs<=jL->e.ok)) p λx a=>by
   have d:=j7 a;have h:=q x a;obtain⟨E,F,rfl,t,h⟩:=h.cons;obtain⟨G,H,rfl,u,h⟩:=h.cons;obtain⟨I,J,rfl,v,h⟩:=h.cons;obtain⟨w,K,rfl,z,h⟩:=h.cons;have A:=h.nil;subst A;obtain⟨B,rfl,f⟩:=mZ t;obtain⟨k,rfl,C⟩:=mZ u;obtain⟨s,rfl⟩:=rz v;simp only[c8,dG]at d;obtain⟨l,rfl,j,b⟩:=Fl n w ae z;refine⟨.mk B k s false l,by simp[bj.cs],?_,λm=>?_⟩
   .simp only[bj.cs,bj.sz,c8,dG]at j⊢;omega
   .simp only[bj.cs,bj.ok,c8,dG]at m b⊢;exact⟨f,C,ae,b ae⟩
  rw[<-Bt]at i;subst i;obtain⟨j,b⟩:=O7 l r;exact⟨l,rfl,ae,λm=>b ae⟩
def Lu{d f b a:PV}(h:Fit (.int .i64) d)(i:Fit (.int .i64) f)(j:Fit .str b)(m:Fit (.rows 88) a):
  ∃e:bj,d=.int .i64 e.op/\f=.int .i64 e.n/\b=.str e.s/\a=.slice e.f (cn e.xs)/\e.sz<=dG b+dG a/\(dG b+dG a<=jL->e.ok):=by
 obtain⟨n,rfl,c⟩:=mZ h;obtain⟨k,rfl,o⟩:=mZ i;obtain⟨s,rfl⟩:=rz j;obtain⟨l,rfl,p,g⟩:=Fl _ a (Nat.le_refl _) m;refine⟨.mk n k s false l,rfl,rfl,rfl,rfl,?_,λq=>?_⟩
 .simp only[bj.sz,dG]at p⊢;omega
 .simp only[bj.ok,dG]at q g⊢;exact⟨c,o,ae,g ae⟩
def Ak:∀(n:Nat) (y:PV),dG y<=n->Fit (.rows 90) y->∃l:List cl,y=.slice false (cU l)/\eZ l<=dG y/\(dG y<=jL->dU l)
 |0,y,h,_=>by have:=A4 y;omega
 |n+1,y,s,h=>by
  obtain⟨W,t,k,rfl,u⟩:=Oo h;simp only[uw,ay]at k;subst k;simp only[dG]at s⊢;obtain⟨l,m,v⟩:=oC (c:=cl.cs) (P:=λe=>e.sz<=c8 e.cs/\(c8 e.cs<=jL->e.ok)) t λx d=>by
   have f:=j7 d;have h:=u x d;obtain⟨X,Y,rfl,w,h⟩:=h.cons;obtain⟨Z,u1,rfl,z,h⟩:=h.cons;obtain⟨y2,u2,rfl,A,h⟩:=h.cons;obtain⟨y3,u3,rfl,B,h⟩:=h.cons;obtain⟨y4,u4,rfl,C,h⟩:=h.cons;obtain⟨y5,u5,rfl,D,h⟩:=h.cons;obtain⟨y6,u6,rfl,E,h⟩:=h.cons;obtain⟨y7,u7,rfl,F,h⟩:=h.cons;obtain⟨y8,u8,rfl,G,h⟩:=h.cons;obtain⟨y9,u9,rfl,H,h⟩:=h.cons;obtain⟨ya,ua,rfl,I,h⟩:=h.cons;obtain⟨J,ub,rfl,K,h⟩:=h.cons;obtain⟨L,uc,rfl,M,h⟩:=h.cons;have N:=h.nil;subst N;obtain⟨O,rfl,g⟩:=mZ w;obtain⟨Q,rfl⟩:=rz z;obtain⟨R,rfl,i⟩:=mZ A;obtain⟨a,rfl,rfl,rfl,rfl,S,o⟩:=Lu B C D E;obtain⟨b,rfl,rfl,rfl,rfl,T,p⟩:=Lu F G H I;simp only[c8,dG]at f S T o p;obtain⟨U,rfl,q,k1⟩:=Ak n J ae K;obtain⟨V,rfl,j,k2⟩:=Ak n L ae M;simp only[dG]at q j k1 k2 f;refine⟨.mk O Q R a b false U false V,by simp[cl.cs],?_,λr=>?_⟩
   .simp only[cl.cs,cl.sz,c8,dG];omega
   .simp only[cl.cs,cl.ok,c8,dG]at r⊢;exact⟨g,ae,i,⟨o ae,ae⟩,⟨p ae,ae⟩,k1 ae,k2 ae⟩
  rw[<-BM]at m;subst m;obtain⟨q,j⟩:=OD l v;exact⟨l,rfl,ae,λr=>j ae⟩
def PY{y:PV}(h:Fit (.slice [.int .i64,.int .i64,.str]) y):∃l:List dY,y=.slice false (cy l)/\(dG y<=jL->l.length<=1048576/\∀v∈l,er v):=by
 have A:jL=1048576:=rfl;obtain⟨m,rfl,g⟩:=sN h;obtain⟨l,rfl,o⟩:=oC (c:=jD) (P:=λv=>c8 (jD v)<=ij m/\1<=c8 (jD v)/\fA v.k/\fA v.n/\v.s.size<=c8 (jD v)) m λx f=>by
  have i:=j7 f;have h:=g x f;obtain⟨B,C,rfl,p,h⟩:=h.cons;obtain⟨D,E,rfl,q,h⟩:=h.cons;obtain⟨F,G,rfl,r,h⟩:=h.cons;have t:=h.nil;subst t;obtain⟨k,rfl,u⟩:=mZ p;obtain⟨n,rfl,w⟩:=mZ q;obtain⟨s,rfl⟩:=rz r;refine⟨⟨k,n,s⟩,rfl,i,?_,u,w,?_⟩<;>simp only[jD,c8,dG]<;>omega
 refine⟨l,rfl,λz=>?_⟩;simp only[dG]at z;refine⟨?_,λv j=>?_⟩
 .have:=mU (xs:=l.map jD) λx g=>by
   obtain⟨v,j,rfl⟩:=List.mem_map.1 g;exact(o v j).2.1
  rw[List.length_map]at this;omega
 .obtain⟨a,b,c,d,e⟩:=o v j;exact⟨c,d,ae⟩
def L7{y:PV}(h:Fit (.slice [.str,.int .i64,.int .i64,.str]) y)(g:dG y<=jL):∃l:List Pr,y=.slice false (aT l)/\l.length<=1048576/\∀p∈l,er p.v:=by
 have A:jL=1048576:=rfl;obtain⟨i,rfl,b⟩:=sN h;simp only[dG]at g;obtain⟨l,rfl,f⟩:=oC (c:=wM) (P:=λv=>1<=c8 (wM v)/\er v.v) i λx a=>by
  have d:=j7 a;have h:=b x a;obtain⟨B,C,rfl,j,h⟩:=h.cons;obtain⟨D,E,rfl,m,h⟩:=h.cons;obtain⟨F,G,rfl,o,h⟩:=h.cons;obtain⟨H,I,rfl,q,h⟩:=h.cons;have r:=h.nil;subst r;obtain⟨z,rfl⟩:=rz j;obtain⟨k,rfl,t⟩:=mZ m;obtain⟨n,rfl,u⟩:=mZ o;obtain⟨s,rfl⟩:=rz q;simp only[c8,dG]at d;exact⟨⟨z,k,n,s⟩,rfl,by simp only[wM,c8,dG];omega,t,u,by show s.size<=jL;omega⟩
 refine⟨l,rfl,?_,λp e=>(f p e).2⟩;have:=mU (xs:=l.map wM) λx b=>by
  obtain⟨v,w,rfl⟩:=List.mem_map.1 b;exact(f v w).1
 rw[List.length_map]at this;omega
def fit_keys{y:PV}(h:Fit (.slice [.str]) y):∃l:List ByteArray,y=.slice false (aF l)/\l.length+1<=dG y/\(dG y<=jL->Sh l):=by
 have q:jL=1048576:=rfl;obtain⟨e,rfl,g⟩:=sN h;obtain⟨l,d,i⟩:=oC (c:=λk=>[PV.str k]) (P:=λk=>k.size+1<=ij e) e λx a=>by
  have f:=j7 a;have h:=g x a;obtain⟨r,t,rfl,j,h⟩:=h.cons;have m:=h.nil;subst m;obtain⟨s,rfl⟩:=rz j;simp only[c8,dG]at f;exact⟨s,rfl,ae⟩
 have b:e.length<=ij e:=mU λx a=>by
  rw[d]at a;obtain⟨v,u,rfl⟩:=List.mem_map.1 a;simp only[c8,dG];omega
 have n:e=aF l:=d;refine⟨l,by rw[n],?_,λo=>?_⟩
 .simp only[dG];rw[d,List.length_map,<-d]at b;omega
 .simp only[dG]at o;rw[d,List.length_map,<-d]at b;exact⟨ae,λk p=>by have:=i k p;omega⟩
def RZ{y:PV}(h:Fit (.slice [.int .i64,.str,.slice [.int .i64,.int .i64,.str],.bool,.slice [.str],.slice [.str],.int .i64]) y)(g:dG y<=jL):∃l:List Tx,y=.slice false (gp l)/\mu l<=1048576/\l.length<=1048576/\∀t∈l,KB t:=by
 have L:jL=1048576:=rfl;obtain⟨j,rfl,b⟩:=sN h;simp only[dG]at g;obtain⟨l,rfl,f⟩:=oC (c:=nM) (P:=λt=>tC t.dx<=c8 (nM t)/\KB t) j λx a=>by
  have d:=j7 a;have h:=b x a;obtain⟨M,N,rfl,k,h⟩:=h.cons;obtain⟨O,Q,rfl,m,h⟩:=h.cons;obtain⟨R,S,rfl,n,h⟩:=h.cons;obtain⟨T,U,rfl,o,h⟩:=h.cons;obtain⟨V,W,rfl,p,h⟩:=h.cons;obtain⟨X,Y,rfl,q,h⟩:=h.cons;obtain⟨Z,u6,rfl,s,h⟩:=h.cons;have u:=h.nil;subst u;obtain⟨i,rfl,_⟩:=mZ k;obtain⟨v,rfl⟩:=rz m;obtain⟨w,rfl,z⟩:=PY n;obtain⟨A,rfl⟩:=YP o;obtain⟨B,rfl,z4,C⟩:=fit_keys p;obtain⟨D,rfl,z5,E⟩:=fit_keys q;obtain⟨at',rfl,_⟩:=mZ s;simp only[c8]at d;obtain⟨F,G⟩:=z ae;refine⟨⟨i,v,false,w,⟨A,false,B,false,D⟩,at'⟩,rfl,?_,F,G,C ae,E ae⟩;simp only[tC,nM,c8];have:=A4 (.int .i64 i);omega
 have H:∀l:List Tx,(∀t∈l,tC t.dx<=c8 (nM t))->mu l<=ij (l.map nM)/\l.length<=ij (l.map nM):=by
  intro l;induction l with
  |nil=>intro _;simp[mu]
  |cons t r I=>
   intro h;have J:=h t az;obtain⟨K,h3⟩:=I λx b=>h x (by simp[b])
   have h4:1<=tC t.dx:=by unfold tC;omega
   simp only[mu,List.map_cons,ij,List.length_cons];exact⟨ae,ae⟩
 obtain⟨J,K⟩:=H l λt e=>(f t e).1
 exact⟨l,rfl,ae,ae,λt e=>(f t e).2⟩
def Nf{y:PV}(h:Fit (.slice [.str,.slice [.str,.int .i64],.rows 90]) y)(w:dG y<=jL):∃l:List Pc,y=.slice false (eL l)/\l.length<=1048576/\∀p∈l,o7 p:=by
 have J:jL=1048576:=rfl;obtain⟨z,rfl,b⟩:=sN h;simp only[dG]at w;obtain⟨l,rfl,q⟩:=oC (c:=eV) (P:=λp=>1<=c8 (eV p)/\o7 p) z λx a=>by
  have f:=j7 a;have h:=b x a;obtain⟨A,B,rfl,g,h⟩:=h.cons;obtain⟨C,D,rfl,i,h⟩:=h.cons;obtain⟨K,L,rfl,E,h⟩:=h.cons;have j:=h.nil;subst j;obtain⟨r,rfl⟩:=rz g;obtain⟨F,rfl,k⟩:=sN i;obtain⟨s,rfl,G,t⟩:=Ak _ _ (Nat.le_refl _) E;simp only[c8,dG]at f G t;obtain⟨m,rfl,d⟩:=oC (c:=LV) (P:=λp=>1<=c8 (LV p)/\p.name.size<=1048576) F λx a=>by
   have e:=j7 a;have h:=k x a;obtain⟨A,B,rfl,g,h⟩:=h.cons;obtain⟨C,D,rfl,i,h⟩:=h.cons;have j:=h.nil;subst j;obtain⟨u,rfl⟩:=rz g;obtain⟨H,rfl,_⟩:=mZ i;simp only[c8,dG]at e;exact⟨⟨u,H⟩,rfl,by simp only[LV,c8,dG];omega,by show u.size<=_;omega⟩
  have I:=mU (xs:=m.map LV) λx b=>by
   obtain⟨v,n,rfl⟩:=List.mem_map.1 b;exact(d v n).1
  rw[List.length_map]at I;refine⟨⟨r,false,m,false,s⟩,rfl,by simp only[eV,c8,dG];omega,?_,?_,λx b=>(d x b).2,t ae,?_⟩
  .show r.size<=_;omega
  .show m.length<=_;omega
  .show eZ s<=_;omega
 refine⟨l,rfl,?_,λp o=>(q p o).2⟩;have:=mU (xs:=l.map eV) λx b=>by
  obtain⟨v,n,rfl⟩:=List.mem_map.1 b;exact(q v n).1
 rw[List.length_map]at this;omega
def Om{y:PV}(h:Fit (.slice [.int .i64]) y):∃l:List Int,y=.slice false (aJ l):=by
 obtain⟨b,rfl,d⟩:=sN h;obtain⟨l,e,_⟩:=oC (c:=λz=>[PV.int .i64 z]) (P:=λ_=>True) b λx a=>by
  have h:=d x a;obtain⟨i,j,rfl,f,h⟩:=h.cons;have g:=h.nil;subst g;obtain⟨n,rfl,_⟩:=mZ f;exact⟨n,rfl,trivial⟩
 exact⟨l,by rw[e];rfl⟩
end
section
open Go Go.Dv
def KE(c:List Int)(i:Nat)(h:i<c.length):(aJ c)[i]?=some [.int .i64 c[i]]:=by simp[aJ,h]
def mK(c:List Int):(aJ c).length=c.length:=by simp[aJ]
def Gc{a:Int}(h:0<=a)(n:Nat)(c:0<n):∃k:Nat,a.tmod n=k/\k<n:=by
 refine⟨(a.tmod n).toNat,?_,?_⟩
 .have:=GK (n:Int) h;omega
 .have d:=GK (n:Int) h;have e:=Int.tmod_lt_of_pos a (b:=(n:Int)) ae;omega
def MD(c:List Int)(b:Bool)(r n:Nat)(d:0<n):∃z:Int,PS tb 26 [.slice b (aJ c),.int .i64 (r:Int),.int .i64 (n:Int)] (.int .i64 z)/\∃k:Nat,z=k/\k<n:=by
 refine mr (af:=Yy) rfl rfl ?_;unfold Yy;dsimp only[List.map,aI,ai];have e:(0:Int)<=r:=ae;rcases bS r c.length with k|k
 .have f:(r:Int)<c.length:=ae;have a:¬(c.length:Int)<=r:=ae;have g:=KE c r k;have h:¬(n:Int)=0:=ae;have i:¬n=0:=ae;by_cases j:c[r]<0
  .refine gN (xI e f a g h i j @mK) (k1 ?_);all_goals exact⟨⟨0,0,rfl,d⟩,rfl⟩
  .refine gN (xI e f a g h i j @mK) (k1 ?_);all_goals exact⟨⟨_,Gc ae n d⟩,rfl⟩
 .have a:(c.length:Int)<=r:=ae;refine gN (dS e a @mK) (k1 ?_);all_goals exact⟨⟨0,0,rfl,d⟩,rfl⟩
def VS(l:List Tx)(D:Nat->Bool)(j:l.length<=1048576)(i:Nat)(c:i<l.length):PS tb 23 [.int .i64 (i:Int),.dT [.slice false (iV D l.length)],.dT [.slice false (lj (gT l) l.length)]] (.bool (ts (om l) D i)):=by
 have b:=Xr D l.length (om l i) false (by have:=Di (gT l) i i;unfold om;omega) λx h=>by have:=(ED.1 h).1;omega
 refine bD (af:=YC) rfl rfl ?_;unfold YC;dsimp only[List.map,aI,ai];have d:(0:Int)<=i:=ae;have f:(i:Int)<l.length:=ae;have a:=tj D l.length i c;have g:=Nc (gT l) l.length i c;unfold ts;unfold om at b⊢;cases e:D i with
 |true=>
  rw[e]at a;exact gP (vE d f a g @fY @lZ) b k0;all_goals simp
 |false=>
  rw[e]at a;exact gP (vE d f a g @fY @lZ) b k0;all_goals simp
def jQ(l:List Tx)(D a:Nat->Bool)(b:Nat->Ef)(o:List Nat)(c:Bool):Heap:=[(5,.row false 1 (dW o)),(4,.var false [.ref 3 l.length 0 l.length]),(3,.row false 1 (iV a l.length)),(2,.row false 8 (bu (mW D b l.length))),(1,.var false [.p (.slice false (lj (gT l) l.length))]),(0,.row c 3 (kE (gT l)))]
def XX(G:Heap)(y:Nat)(f:GB 6 G y)(l:List Tx)(P S T C:DV)(hP:below (y+6) dep P=true)(K:below (y+6) dep S=true)(L:below (y+6) dep T=true)(M:below (y+6) dep C=true)(D:Nat->Bool)(a:Nat->Ef)(o:List Nat)(b:Bool)(r:Nat)(N:l.length<=1048576)(R:Ex->St->Prop)
  (hR:R (.exit 4) ⟨[(0,P),(1,S),(2,T),(3,C),(15,.ref 2 l.length 0 l.length),(16,.ptr 4 0),(17,.func 23 [.ptr 4 0,.ptr 1 0]),(18,.ref 5 r 0 r),(19,.p (.int .i64 (r:Int))),(20,.ref (y+6) (jR l D l.length).length 0 (jR l D l.length).length),(45,.p (.int .i64 l.length)),(46,.p (.int .i64 (r:Int)))],(y+6,.row false 1 (dW (jR l D l.length)))::(G++jQ l D D a o b),y+7,[0]⟩):
  W tb (.loop Mg) ⟨[(0,P),(1,S),(2,T),(3,C),(15,.ref 2 l.length 0 l.length),(16,.ptr 4 0),(17,.func 23 [.ptr 4 0,.ptr 1 0]),(18,.ref 5 r 0 r),(19,.p (.int .i64 (r:Int))),(20,.ref (y+6) 0 0 0),(45,.p (.int .i64 l.length)),(46,.p (.int .i64 (r:Int))),(50,.p (.int .i64 l.length)),(51,.p (.int .i64 0))],(y+6,.row false 1 [])::(G++jQ l D D a o b),y+7,[0]⟩ R:=by
 refine bL (λm A=>∃i:Nat,i+m=l.length/\A=⟨[(0,P),(1,S),(2,T),(3,C),(15,.ref 2 l.length 0 l.length),(16,.ptr 4 0),(17,.func 23 [.ptr 4 0,.ptr 1 0]),(18,.ref 5 r 0 r),(19,.p (.int .i64 (r:Int))),(20,.ref (y+6) (jR l D i).length 0 (jR l D i).length),(45,.p (.int .i64 l.length)),(46,.p (.int .i64 (r:Int))),(50,.p (.int .i64 l.length)),(51,.p (.int .i64 (i:Int)))],(y+6,.row false 1 (dW (jR l D i)))::(G++jQ l D D a o b),y+7,[0]⟩) ?_ l.length _ ⟨0,ae,rfl⟩;rintro m A ⟨i,hi,rfl⟩;refine aH Mg.eq_1 ?_;have n:=f.get;have q2:=f.set;have p:nb (G++jQ l D D a o b)=y+6:=f.top _ rfl;have q:∀c,y+6<=c->aD c (G++jQ l D D a o b)=G++jQ l D D a o b:=λc B=>by
  rw[f.zQ _ c B];have O:0<c:=ae;have d:1<c:=ae;have Q:2<c:=ae;have s:3<c:=ae;have U:4<c:=ae;have V:5<c:=ae;simp[jQ,aD,O,d,Q,s,U,V]
 have t:∀c,y+6<=c->de c (G++jQ l D D a o b)=true:=λc B=>by
  rw[f.all];have s:3<c:=ae;simp[jQ,de,bq.below,below,dep,s]
 have E:ag (G++jQ l D D a o b) 1=some (.var false [.p (.slice false (lj (gT l) l.length))]):=n _ 1 ae;have F:ag (G++jQ l D D a o b) 3=some (.row false 1 (iV D l.length)):=n _ 3 ae;have H:ag (G++jQ l D D a o b) 4=some (.var false [.ref 3 l.length 0 l.length]):=n _ 4 ae;have j:∀v,below (y+6) dep v=true->below (y+7) 5 v=true:=λv h=>fM ae _ _ h
 have u:=j _ hP;have w:=j _ K;have x:=j _ L;have z:=j _ M;have I:(iV D l.length).take l.length=iV D l.length:=List.take_of_length_le (by rw[fY];omega);rcases bS i l.length with c|c
 .have d:(i:Int)<l.length:=ae;have k:=VS l D N i c;have g:=Mc l D i;have X:=Qp l D i;have Y:((jR l D i).length+1)*8<=an:=by simp only[an];omega
  have Z:(jR l D i).length+1<=an:=by simp only[an];omega
  have J:=q7 (jR l D i) i;cases e:ts (om l) D i with
  |true=>
   rw[e]at k;rw[e,aq rfl]at g;rw[<-g]at J;refine gP (R3 d E F H I p q t u w x z @fY @c7 Y Z J ss qn uQ) k (k1 ?_);refine LI.next (m':=m-1) ae ⟨i+1,ae,?_⟩;have:(jR l D (i+1)).length=(jR l D i).length+1:=by rw[g];simp
   rw[this]
  |false=>
   rw[e]at k;rw[e,ak az,List.append_nil]at g;refine gP (tD d E F H I p q t u w x z @fY @c7 ss qn uQ) k (k1 ?_);refine LI.next (m':=m-1) ae ⟨i+1,ae,?_⟩;rw[g]
 .have d:¬(i:Int)<l.length:=ae;obtain rfl:i=l.length:=ae;refine gN (o9 d p q t u w x z qn uQ) (k1 ?_);exact hR
end
end Go.Dv.Tryz
