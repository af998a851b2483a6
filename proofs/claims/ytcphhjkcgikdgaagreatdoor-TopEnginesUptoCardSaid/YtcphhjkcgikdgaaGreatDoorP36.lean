/- Lemmas for the law of this claim. -/
import Derived.Test.YtcphhjkcgikdgaaGreatDoorP33
import Derived.Test.YtcphhjkcgikdgaaGreatDoorP35
import Derived.Test.YtcphhjkcgikdgaaGreatDoorP32
import Derived.Test.YtcphhjkcgikdgaaGreatDoorP18
set_option linter.all false
set_option maxRecDepth 100000
set_option maxHeartbeats 8000000
namespace Go.Dv.Tryz
section
open Go Go.Dv
abbrev EL:=ByteArray->Option Int
def nL(g:EL):SM:=λk=>(g k).map λz=>.one (.int .i64 z)
def Fs(g:EL)(k:ByteArray)(v:Option Int):EL:=λj=>if j=k then v else g j
def e9(g:EL)(k:ByteArray)(z:Int):kn (nL g) k (some (.one (.int .i64 z)))=nL (Fs g k (some z)):=by
 funext j;simp only[kn,nL,Fs];split<;>rfl
def eB(g:EL)(k:ByteArray):kn (nL g) k none=nL (Fs g k none):=by
 funext j;simp only[kn,nL,Fs];split<;>rfl
def SX{f:FuncId}{af:av}(b:tb.A f=some af){args:List PV}(c:args.length=af.nparams)
  (h:W tb af.body {env:=ai 0 (args.map aI),heap:=[],next:=0,marks:=[0]} (eX af.results λv s=>∃n:Int×Int,aS s.heap dep v=some (.tuple [.int .i64 n.1,.int .i64 n.2])))(a:af.rs=false:=by rfl):∃n m:Int,PS tb f args (.tuple [.int .i64 n,.int .i64 m]):=by
 obtain⟨⟨n,m⟩,h⟩:=jg (T:=tb) b c h (hrs:=a);exact⟨n,m,h⟩
def Ik(a c:Int):∃b,PS tb 256 [.int .i64 a,.int .i64 c] (.bool b)/\True:=by
 refine uI (af:=R5) rfl rfl ?_;unfold R5;dsimp only[List.map,aI,ai];refine hN trivial (k3 ?_ ?_ ?_)<;>(repeat with_reducible intro d)
 all_goals exact⟨⟨_,trivial⟩,rfl⟩
def Wl(b:Int):∃n m:Int,PS tb 257 [.int .i64 b] (.tuple [.int .i64 n,.int .i64 m]):=by
 refine SX (af:=S2) rfl rfl ?_;unfold S2;dsimp only[List.map,aI,ai];repeat'(first|(simp(disch:=omega) only[go_sem,seval,reduceCtorEq])|with_reducible exact Ev.mk|((first|apply aY|apply aQ)<;>intro a c<;>(simp(disch:=omega) only[go_sem,seval,reduceCtorEq,a])<;>clear a))
 all_goals exact⟨(_,_),rfl⟩
def Hw(l:List Int)(z:Int):kI l++[[.int .i64 z]]=kI (l++[z]):=by simp[kI]
def Jw(n:Nat)(a:List Int)(b:a.length=n)(m:n<=1048576)(f g:Int):
  W tb (.loop C7) ⟨[(13,.p (.int .i64 f)),(14,.p (.int .i64 g)),(89,.ref 1 n 0 n),(90,.p (.int .i64 n)),(91,.p (.int .i64 0))],[(1,.row false 1 (kI a))],2,[0]⟩
   (BK 3 (SK tb (.seq (.bE false [(.o 99 (.move (.t 14)),[14]),(.o 4 (.move (.t 99)),[99]),(.o 5 (.move (.i 0)),[])]) .ret) (eX [gB.tmp 4,gB.tmp 5] λv s=>∃n:Int×Int,aS s.heap 5 v=some (.tuple [.int .i64 n.1,.int .i64 n.2])))):=by
 have d:(kI a).length=n:=by rw[ln];exact b
 refine bL (λj h=>∃i:Nat,i+j=n/\h=⟨[(13,.p (.int .i64 f)),(14,.p (.int .i64 g)),(89,.ref 1 n 0 n),(90,.p (.int .i64 n)),(91,.p (.int .i64 i))],[(1,.row false 1 (kI a))],2,[0]⟩) ?_ n _ ⟨0,ae,rfl⟩;rintro j h ⟨i,o,rfl⟩;refine aH C7.eq_1 ?_;rcases bS i n with c|c
 .have e:(i:Int)<n:=ae;have k:(0:Int)<=i:=ae;have l:=Lc a i ae;refine hN (fW e k l d) (k2 ?_ ?_)<;>(repeat with_reducible intro p)
  all_goals first
   |exact⟨(_,_),rfl⟩
   |exact LI.next (m':=j-1) ae ⟨i+1,ae,rfl⟩
 .have e:¬(i:Int)<n:=ae;refine gN e (k1 ?_);exact⟨(_,_),rfl⟩
def Ju:∀(k:Nat) (e:bj),e.sz<=k->k<=1048576->Ar e->∀(n:Nat) (g:EL),∃P Q:Int,PS tb 248 [.agg [.int .i64 e.op,.int .i64 e.n,.str e.s,.slice e.f (cn e.xs)],.map n (nL g)] (.tuple [.int .i64 P,.int .i64 Q])
 |0,e,y,_,_=>by cases e;simp[bj.sz]at y
 |k+1,e,y,S,A=>by
  intro n g;have C:e.xs.length<=1048576:=by have:=bQ e.xs;rw[bj.gj]at y;omega
  have B:dE e.xs<=k:=by rw[bj.gj]at y;omega
  obtain⟨q,s⟩:=(Tk e).1 A;obtain⟨D,E,p⟩:=Wl e.op;refine SX (af:=R1) rfl rfl ?_;unfold R1;dsimp only[List.map,aI,ai];by_cases u:e.op=3
  .cases F:g e.s with
   |none=>
    have d:nL g e.s=none:=by simp[nL,F]
    repeat'(first|(simp(disch:=omega) only[go_sem,seval,reduceCtorEq,bU u,d])|with_reducible exact Ev.mk|((first|apply aY|apply aQ)<;>intro a G<;>(simp(disch:=omega) only[go_sem,seval,reduceCtorEq,bU u,d,a])<;>clear a))
    all_goals exact⟨(_,_),rfl⟩
   |some z=>
    have d:nL g e.s=some (.one (.int .i64 z)):=by simp[nL,F]
    repeat'(first|(simp(disch:=omega) only[go_sem,seval,reduceCtorEq,bU u,d])|with_reducible exact Ev.mk|((first|apply aY|apply aQ)<;>intro a G<;>(simp(disch:=omega) only[go_sem,seval,reduceCtorEq,bU u,d,a])<;>clear a))
    all_goals exact⟨(_,_),rfl⟩
  refine gN (bA u @bB) (k1 ?_);refine bL (λj H=>∃(i:Nat) (o:List Int),i+j=e.xs.length/\o.length=i/\H=⟨[(1,.p (.map n (nL g))),(2,.ptr 0 0),(8,.ref 1 i 0 i),(39,.p (.slice e.f (cn e.xs))),(40,.p (.int .i64 e.xs.length)),(41,.p (.int .i64 i))],[(1,.row false 1 (kI o)),(0,.var false [.p (.int .i64 e.op),.p (.int .i64 e.n),.p (.str e.s),.p (.slice e.f (cn e.xs))])],2,[0]⟩) ?_ e.xs.length _ ⟨0,[],ae,rfl,rfl⟩;rintro j H ⟨i,o,T,f,rfl⟩;refine aH JO.eq_1 ?_;rcases bS i e.xs.length with c|c
  .have d:(i:Int)<e.xs.length:=ae;have v:(0:Int)<=i:=ae;have w:=kT e.xs i c;rw[bj.As]at w;obtain⟨t,r,I⟩:=Ju k e.xs[i] (ep (lE (List.getElem_mem c)) B) ae (Cw.1 s _ (List.getElem_mem c)) n g;have J:(i+1)*8<=an:=by simp only[an];omega
   have K:i+1<=an:=by simp only[an];omega
   have L:bT 1 [[PV.int .i64 t]]=true:=rfl;have h:(kI o).length=i:=by rw[ln];exact f
   by_cases M:r=0
   .refine gP (o9 d v w @bB (bU M) J K L h @Hw) I (k1 ?_);all_goals first
     |contradiction
     |exact LI.next (m':=j-1) ae ⟨i+1,o++[t],ae,by simp[f],rfl⟩
   .refine gP (rG d v w @bB M J K L h) I (k1 ?_);all_goals first
     |contradiction
     |exact⟨(_,_),rfl⟩
  .have d:¬(i:Int)<e.xs.length:=ae;have R:i=e.xs.length:=ae;have h:(kI o).length=i:=by rw[ln];exact f
   by_cases l:10<=e.op
   .by_cases m:e.op<=15
    .have v:=U3 (.inl ⟨l,m⟩:10<=e.op/\e.op<=15\/22<=e.op/\e.op<=24);rw[aq m]at v;rw[v]at q;obtain rfl:i=2:=ae;rcases o with _|⟨t0,_|⟨N,_|⟨U,o⟩⟩⟩<;>simp at f
     obtain⟨b,x,_⟩:=Ik e.op t0;have w:kI [t0,N]=[[.int .i64 t0],[.int .i64 N]]:=rfl;have O:¬(2:Int)<e.xs.length:=ae;rw[w];repeat'(first|exact x|(simp(disch:=omega) only[go_sem,seval,reduceCtorEq,d,O,l,m])|with_reducible exact Ev.mk|apply cT|((first|apply aY|apply aQ)<;>intro a G<;>(simp(disch:=omega) only[go_sem,seval,reduceCtorEq,d,O,l,m,a])<;>clear a))
     all_goals exact⟨(_,_),rfl⟩
    .have V:¬(10<=e.op/\e.op<=15):=ae;refine gP (dP d l m h @ln) p (k1 ?_);exact Jw i o f ae D E
   .refine gP (fW d l h @ln) p (k1 ?_);exact Jw i o f ae D E
end
section
open Go Go.Dv
def B6{T:dw}{f:FuncId}{af:av}(l:T.A f=some af){args:List DV}{H:Heap}{a:Nat}{c:Type}(r:c->DV)(d:c->Heap)(m:args.length=af.nparams)
  (h:W T af.body {env:=ai 0 args,heap:=H,next:=a,marks:=[a]} (eX af.results λv s=>∃i,v=r i/\below a dep v=true/\Left a (d i) s))(b:af.rs=true:=by rfl):∃i,BS T f args H a (r i) (d i) a:=by
 obtain⟨e,z,o,g⟩:=nr _ _ _ h;unfold eX at g;obtain⟨q,v,t,i,rfl,u,j,w,x⟩:=g;rw[<-mT]at j;obtain⟨n,y⟩:=o.at;refine⟨i,n+1,?_⟩;rw[dQ];simp only[l];have k:=j0 (aK.le.refl (jn T.A T.X n)) (iU n) _ _ _ (y n (Nat.le_refl _));unfold jH oZ;rw[lB k,b];simp only;rw[aq m,k];rw[<-x];rcases q with rfl|rfl<;>simp[t,u,j,w]
abbrev Qt:=ByteArray->Option Bool
def tP(g:Qt):SM:=λk=>(g k).map λz=>.one (.bool z)
def VC(g:Qt)(k:ByteArray)(v:Bool):Qt:=λj=>if j=k then some v else g j
def eH(g:Qt)(k:ByteArray)(z:Bool):kn (tP g) k (some (.one (.bool z)))=tP (VC g k z):=by
 funext j;simp only[kn,tP,VC];split<;>rfl
structure Sg where
 nv:Nat
 v:EL
 nl:Nat
 l:Qt
 na:Nat
 a:EL
def Hc(p:List DV)(s:Sg):Heap:=[(4,.var false [.ptr 1 0,.ptr 2 0,.ptr 3 0]),(3,.map false (.strs s.na (nL s.a))),(2,.map false (.strs s.nl (tP s.l))),(1,.map false (.strs s.nv (nL s.v))),(0,.var false p)]
structure CG(p:List DV)(L:Heap)(nx:Nat):Prop where
 n0:∀s,ag (L++Hc p s) nx=none
 n1:∀s,ag (L++Hc p s) (nx+1)=none
 b0:∀s,aD nx (L++Hc p s)=L++Hc p s
 l0:∀s,de nx (L++Hc p s)=true
 b1:∀s,aD (nx+1) (L++Hc p s)=L++Hc p s
 l1:∀s,de (nx+1) (L++Hc p s)=true
 g4:∀s,ag (L++Hc p s) 4=some (.var false [.ptr 1 0,.ptr 2 0,.ptr 3 0])
 g3:∀s,ag (L++Hc p s) 3=some (.map false (.strs s.na (nL s.a)))
 g2:∀s,ag (L++Hc p s) 2=some (.map false (.strs s.nl (tP s.l)))
 g1:∀s,ag (L++Hc p s) 1=some (.map false (.strs s.nv (nL s.v)))
 s1:∀s n g,aC (L++Hc p s) 1 (.map false (.strs n (nL g)))=L++Hc p {s with nv:=n,v:=g}
 s2:∀s n g,aC (L++Hc p s) 2 (.map false (.strs n (tP g)))=L++Hc p {s with nl:=n,l:=g}
 s3:∀s n g,aC (L++Hc p s) 3 (.map false (.strs n (nL g)))=L++Hc p {s with na:=n,a:=g}
 w1:(nx==1)=false
 w2:(nx==2)=false
 w3:(nx==3)=false
 w4:(nx==4)=false
 lt:4<nx
def sE.cg{p:List DV}(hp:p.all (below 1 dep)=true){L:Heap}{a:Nat}(h:sE 5 L a):CG p L a:=by
 have r:=h.ge;have l:∀s c,a<=c->aD c (L++Hc p s)=L++Hc p s:=λs c b=>by
  rw[ky,h.ba c b];have i:4<c:=ae;have d:3<c:=ae;have e:2<c:=ae;have f:1<c:=ae;have j:0<c:=ae;simp[Hc,aD,i,d,e,f,j]
 have m:∀s c,a<=c->de c (L++Hc p s)=true:=λs c b=>by
  rw[pD,h.al c b];have d:3<c:=ae;have e:2<c:=ae;have f:1<c:=ae;have k:∀x∈p,below c dep x=true:=λx q=>fM ae dep x (List.all_eq_true.1 hp x q)
  simp only[Hc,de,bq.below,List.all_cons,List.all_nil,below,dep,d,e,f,decide_true,Bool.and_true,Bool.true_and];exact List.all_eq_true.2 k
 have o:∀s c,a<=c->ag (L++Hc p s) c=none:=λs c b=>by
  rw[dK (h.no c (.inl b))];have i:¬4=c:=ae;have d:¬3=c:=ae;have e:¬2=c:=ae;have f:¬1=c:=ae;have j:¬0=c:=ae;simp[Hc,ag,i,d,e,f,j]
 exact⟨λs=>o s _ (Nat.le_refl _),λs=>o s _ (iU _),λs=>l s _ (Nat.le_refl _),λs=>m s _ (Nat.le_refl _),λs=>l s _ (iU _),λs=>m s _ (iU _),
  λs=>by rw[dK (h.no 4 (.inr ae))];rfl,λs=>by rw[dK (h.no 3 (.inr ae))];rfl,λs=>by rw[dK (h.no 2 (.inr ae))];rfl,λs=>by rw[dK (h.no 1 (.inr ae))];rfl,
  λs n g=>by rw[iO (h.no 1 (.inr ae))];rfl,λs n g=>by rw[iO (h.no 2 (.inr ae))];rfl,λs n g=>by rw[iO (h.no 3 (.inr ae))];rfl,
  fy.2 ae,fy.2 ae,fy.2 ae,fy.2 ae,ae⟩
section
variable{p:List DV}(hp:p.all (below 1 dep)=true)
def Fj(s:Sg)(k:ByteArray)(z:Int):Sg:={s with nv:=if(nL s.v k).isSome then s.nv else s.nv+1,v:=Fs s.v k (some z),na:=if(nL s.a k).isSome then s.na else s.na+1,a:=Fs s.a k (some z)}
include hp in
theorem tR{L:Heap}{a:Nat}(h:sE 5 L a)(s:Sg)(k:ByteArray)(z:Int):BS tb 164 [.ptr 4 0,.p (.str k),.p (.int .i64 z)] (L++Hc p s) a (.tuple []) (L++Hc p (Fj s k z)) a:=by
 have g:=h.cg hp;refine ib (af:=a164) rfl rfl ?_;unfold a164;dsimp only[ai];refine gN (OK g.n0 g.b0 g.l0 g.g1 g.g2 g.g3 g.g4 g.s1 g.s2 g.s3 g.lt @e9) (k1 ?_);all_goals rfl
noncomputable def V9 (e:bj) (n:Nat) (g:EL):Int×Int:=Classical.epsilon λr:Int×Int=>PS tb 248 [.agg [.int .i64 e.op,.int .i64 e.n,.str e.s,.slice e.f (cn e.xs)],.map n (nL g)] (.tuple [.int .i64 r.1,.int .i64 r.2])
def NV(e:bj)(c:e.sz<=1048576)(h:Ar e)(n:Nat)(g:EL):PS tb 248 [.agg [.int .i64 e.op,.int .i64 e.n,.str e.s,.slice e.f (cn e.xs)],.map n (nL g)] (.tuple [.int .i64 (V9 e n g).1,.int .i64 (V9 e n g).2]):=
 od (p:=λr:Int×Int=>PS tb 248 [.agg [.int .i64 e.op,.int .i64 e.n,.str e.s,.slice e.f (cn e.xs)],.map n (nL g)] (.tuple [.int .i64 r.1,.int .i64 r.2])) (by
  obtain⟨a,b,h⟩:=Ju e.sz e (Nat.le_refl _) c h n g;exact⟨(a,b),h⟩)
include hp in
theorem HS{L:Heap}{l:Nat}(h:sE 5 L l)(s:Sg)(c:Int)(name:ByteArray)(max:Int)(a b:bj)(f:Bool)(i:List cl)(y:Bool)(m:List cl)(n:a.sz<=1048576)(o:b.sz<=1048576)(q:o8 c a b):
  ∃r:Int×Int×Int,BS tb 231 [.ptr 4 0,.agg (dR c name max a b f i y m)] (L++Hc p s) l (.tuple [.p (.int .i64 r.1),.p (.int .i64 r.2.1),.p (.int .i64 r.2.2)]) (L++Hc p s) l:=by
 have g:=h.cg hp;obtain⟨_,_,t,u⟩:=q;refine B6 (af:=SG) rfl (λr:Int×Int×Int=>.tuple [.p (.int .i64 r.1),.p (.int .i64 r.2.1),.p (.int .i64 r.2.2)]) (λ_=>L++Hc p s) rfl ?_;unfold SG;dsimp only[ai,dR];by_cases e:c=8
 .refine gN (K3 g.n0 g.b0 g.l0 g.b1 g.l1 g.g1 g.g2 g.g3 g.g4 g.w1 g.w2 g.w3 g.w4 (bU e)) (k1 ?_);exact⟨(_,_,_),rfl⟩
 .have j:=NV a n (t e) s.nv s.v;generalize V9 a s.nv s.v=z at j;by_cases k:z.2=0
  .by_cases d:c=3\/c=6
   .have v:=NV b o (u d) s.nv s.v;generalize V9 b s.nv s.v=A at v;rcases d with d|B
    .refine gP (DF g.n0 g.b0 g.l0 g.b1 g.l1 g.g1 g.g2 g.g3 g.g4 g.w1 g.w2 g.w3 g.w4 e (bU k) (bU d)) (bA j v) (k1 ?_);all_goals first
      |contradiction
      |exact⟨(_,_,_),rfl⟩
    .have d:¬c=3:=ae;refine gP (tD g.n0 g.b0 g.l0 g.b1 g.l1 g.g1 g.g2 g.g3 g.g4 g.w1 g.w2 g.w3 g.w4 e d (bU k) (bU B)) (bA j v) (k1 ?_);all_goals first
      |contradiction
      |exact⟨(_,_,_),rfl⟩
   .have w:¬c=3:=λh=>d (.inl h)
    have x:¬c=6:=λh=>d (.inr h)
    refine gP (tD g.n0 g.b0 g.l0 g.b1 g.l1 g.g1 g.g2 g.g3 g.g4 g.w1 g.w2 g.w3 g.w4 e (bU k) w x) j (k1 ?_);all_goals first
     |contradiction
     |exact⟨(_,_,_),rfl⟩
  .refine gP (J4 g.n0 g.b0 g.l0 g.b1 g.l1 g.g1 g.g2 g.g3 g.g4 g.w1 g.w2 g.w3 g.w4 e k) j (k1 ?_);all_goals first
    |contradiction
    |exact⟨(_,_,_),rfl⟩
end
end
section
open Go Go.Dv
abbrev X7:Ef:=⟨0,0,true,[],true,[],true,[],true,[],E,0⟩
def mW(D:Nat->Bool)(a:Nat->Ef)(n:Nat):List Ef:=(List.range n).map λi=>if D i then a i else X7
def DT(D:Nat->Bool)(a:Nat->Ef)(n:Nat):(mW D a n).length=n:=by simp[mW]
def UI(D:Nat->Bool)(a:Nat->Ef)(n i:Nat)(h:i<n)(b:D i=true):(bu (mW D a n))[i]?=some (iP (a i)):=by simp[bu,mW,h,b]
def IU(D:Nat->Bool)(a:Nat->Ef)(n i:Nat)(h:i<n):(bu (mW D a n)).set i (iP (a i))=bu (mW (j2 D i) a n):=by
 refine List.ext_getElem (by simp[bu,mW]) λj b c=>?_
 rw[List.getElem_set];simp only[bu,mW,List.getElem_map,List.getElem_range,j2];by_cases e:i=j
 .subst e;simp
 .rw[ak e];have:decide (j=i)=false:=by simp;omega
  rw[this,Bool.or_false]
def gG(D:Nat->Bool)(a:Nat->Ef)(s:List Pr):Nat->List Pr
 |0=>s
 |i+1=>if D i then eE (gG D a s i) (a i)else gG D a s i
def OH(H:Heap)(p a b n j:Nat)(D:Nat->Bool)(d:Nat->Ef)(s:List Pr)(M Q R:Bool)(g:aD p H=H)(k:de p H=true)(w:a<p)(x:b<p)(V:j<=n)(W:n<=1048576)
  (y:ag H a=some (.row Q 8 (bu (mW D d n))))(z:ag H b=some (.row R 1 (iV D n)))(N:∀i,i<=j->lS (gG D d s i))(S:∀i,i<j->D i=true->rP (d i)):
  ∃f,BS tb 27 [.ref a n 0 n,.ref b n 0 n,.p (.int .i64 (j:Int)),.p (.slice M (aT s))] H p (.p (.slice f (aT (gG D d s j)))) H p:=by
 refine B6 (af:=YM) rfl (λf:Bool=>.p (.slice f (aT (gG D d s j)))) (λ_=>H) rfl ?_;have T:=wQ s M (N 0 ae).len;unfold YM;dsimp only[ai];refine gP trivial T (k1 ?_);refine bL (λm O=>∃(i:Nat) (f:Bool),i+m=j/\O=⟨[(0,.ref a n 0 n),(1,.ref b n 0 n),(2,.p (.int .i64 (j:Int))),(9,.p (.slice f (aT (gG D d s i)))),(10,.p (.int .i64 (i:Int)))],H,p,[p,p]⟩) ?_ j _ ⟨0,_,ae,rfl⟩;rintro m O ⟨i,f,X,rfl⟩;refine aH O5.eq_1 ?_;have l:(bu (mW D d n)).length=n:=by rw[cu,DT]
 have o:=fY D n;have A:(j:Int)<=n:=ae;have B:¬(n:Int)<j:=ae;rcases bS i j with c|c
 .have t:(i:Int)<j:=ae;have I:(0:Int)<=i:=ae;have J:(i:Int)<n:=ae;have e:i<n:=ae;have u:=tj D n i e;have C:=N i ae;cases v:D i with
  |false=>
   have E:gG D d s (i+1)=gG D d s i:=by simp[gG,v]
   rw[v]at u;refine gN (DF g k w x y z l o A B t I J e u Nat.zero_add) (k1 ?_);refine LI.next (m':=m-1) ae ⟨i+1,f,ae,?_⟩;rw[E]
  |true=>
   have E:gG D d s (i+1)=eE (gG D d s i) (d i):=by simp[gG,v]
   have K:=UI D d n i e v;have P:=S i c v;rw[v]at u;dsimp only[iP]at K;have r:=Ad (gG D d s i) (d i).writes f (d i).fw C.len C.sz (by have:=P.wl;omega) (λq U=>(P.wv q U).2.2);by_cases F:(d i).st=1
   .by_cases L:(iJ (gG D d s i)&&gW (d i).writes)=true
    .rw[aq L]at r;have G:gG D d s (i+1)=dj (gG D d s i) (d i).writes:=by rw[E,eE,aq ⟨F,L⟩]
     refine gP (Jg g k w x y z l o A B t I J e K u Nat.zero_add (bU F)) r (k1 ?_);refine LI.next (m':=m-1) ae ⟨i+1,false,ae,?_⟩;rw[G]
    .rw[ak L]at r;have G:gG D d s (i+1)=gG D d s i:=by rw[E,eE,ak λh=>L h.2]
     refine gP (Jg g k w x y z l o A B t I J e K u Nat.zero_add (bU F)) r (k1 ?_);refine LI.next (m':=m-1) ae ⟨i+1,f,ae,?_⟩;rw[G]
   .have G:gG D d s (i+1)=gG D d s i:=by rw[E,eE,ak λh=>F h.1]
    refine gN (Jg g k w x y z l o A B t I J e K u Nat.zero_add F) (k1 ?_);refine LI.next (m':=m-1) ae ⟨i+1,f,ae,?_⟩;rw[G]
 .have t:¬(i:Int)<j:=ae;obtain rfl:i=j:=ae;refine gN (rL g k w x y z l o A B t) (k1 ?_);exact⟨f,rfl⟩
end
section
open Go Go.Dv
section
variable{procs:List Pc}{l:List Tx}{s:List Pr}{D:Nat->Bool}
def OC{es:Nat->Ef}(h:iJ s=true):∀n,iJ (gG D es s n)=true/\cD (gG D es s n)=pt gW es D (cD s) n
 |0=>⟨h,rfl⟩
 |n+1=>by
  obtain⟨a,b⟩:=OC (es:=es) h n;simp only[gG,pt];cases D n with
  |true=>
   obtain⟨c,d⟩:=Ee a (es n);simp only[cQ];exact⟨c,by rw[d,b]⟩
  |false=>exact⟨a,b⟩
def Km{a:Nat->Ef}(h:iJ s=false):∀n,gG D a s n=s
 |0=>rfl
 |n+1=>by
  simp only[gG,Km h n];cases D n with
  |true=>simp[eE,h]
  |false=>rfl
def KA:∀{n:Nat},(∀i,i<n->D i=true)->gG D (bH procs l s) s n=dt procs l s n
 |0,_=>rfl
 |n+1,h=>by
  simp only[gG,h n ae,cQ];rw[KA λi a=>h i ae];rfl
abbrev gT(l:List Tx):List Ft:=l.map (·.dx)
def Hm(i:Nat):iC (gT l) i=jI (ec l i).dx:=by
 simp only[iC,gT,ec,List.getD_eq_getElem?_getD,List.getElem?_map];cases l[i]? with
 |some t|none=>rfl
def zF{i:Nat}(h:(iC (gT l) i).all=false):(qz procs l).all i=false/\iC (gT l) i=(ec l i).dx:=by
 rw[Hm]at h⊢;unfold jI at h⊢;cases e:dk (ec l i).dx with
 |false=>rw[e]at h;simp at h
 |true=>
  rw[e]at h;simp only[cQ]at h⊢;exact⟨by show(!dk (ec l i).dx||(ec l i).dx.all)=false;rw[e,h];rfl,trivial⟩
def Wd{i x:Nat}(h:uq (iC (gT l) i) (iC (gT l) x)=false)(g:Gf):∀k∈((qz procs l).ef g x).reads,¬wk gW ((qz procs l).ef g i) k:=by
 intro k b c;unfold uq at h;simp only[AS]at h;obtain⟨d,f⟩:=zF (procs:=procs) h.1;have k1:=(qz procs l).rs x _ d k b;rw[f]at h;have k2:k∈(ec l x).dx.r:=k1;cases e:(iC (gT l) i).all with
 |true=>
  rw[e]at h;have a:=h.2;rw[aq rfl,GN]at a;exact a (List.length_pos_of_mem k2)
 |false=>
  rw[e]at h;obtain⟨j,m⟩:=zF (procs:=procs) e;have k3:=(qz procs l).ws i _ k j c;rw[m]at h;have k4:k∈(ec l i).dx.w:=k3;have a:=h.2;simp only[Bool.false_eq_true,cK]at a;have:=List.any_eq_false.1 a k k4;exact this (ej.2 k2)
def ts(a:Nat->List Nat)(D:Nat->Bool)(i:Nat):Bool:=!D i&&!((a i).any λj=>!D j)
def om(l:List Tx)(i:Nat):List Nat:=qD (gT l) i i
def ED{i x:Nat}:i∈om l x↔i<x/\uq (iC (gT l) i) (iC (gT l) x)=true:=by simp[om,qD]
def UT{x:Nat}(h:ts (om l) D x=true):eA procs (ec l x) (gG D (bH procs l s) s x)=bH procs l s x:=by
 cases a:iJ s with
 |false=>
  rw[Km a,rB procs a];unfold bH;rw[uG procs l a,rB procs a]
 |true=>
  have b:bH procs l s=(qz procs l).ef (cD s):=funext λi=>uv procs l a i
  obtain⟨c,d⟩:=OC (D:=D) (es:=bH procs l s) a x;rw[rM procs l x c,d,b];refine(qz procs l).same (cD s) (Nat.le_refl _) (λi f g k j=>?_) λi c d=>ae
  refine Wd (l:=l) (procs:=procs) ?_ (cD s) k j;simp only[ts,aL,kD,List.any_eq_false]at h;cases e:uq (iC (gT l) i) (iC (gT l) x)with
  |false=>rfl
  |true=>
   have:=h.2 i (ED.2 ⟨f,e⟩);rw[g]at this;simp at this
def xS(h:nH procs l)(a:s.length<=1048576/\∀p∈s,er p.v):∀n,n<=l.length->(gG D (bH procs l s) s n).length<=1048576+n*16385/\lS (gG D (bH procs l s) s n)
 |0,_=>⟨by simpa[gG]using a.1,⟨by have:=a.1;simp only[gG];omega,a.2⟩⟩
 |n+1,g=>by
  obtain⟨i,c⟩:=xS h a n ae;have d:rP (bH procs l s n):=by
   have e:ec l n∈l:=by rw[gQ n ae];exact List.getElem_mem _
   exact lr (h.ok _ e) (mI h a n ae).2
  have j:=h.len;simp only[gG];cases D n with
  |false=>exact⟨by simp only[Bool.false_eq_true,cK];omega,c⟩
  |true=>
   simp only[cQ];have f:(eE (gG D (bH procs l s) s n) (bH procs l s n)).length<=(gG D (bH procs l s) s n).length+16385/\∀p∈eE (gG D (bH procs l s) s n) (bH procs l s n),er p.v:=by
    unfold eE;split
    .refine⟨?_,λp b=>?_⟩
     .have:=mD (gG D (bH procs l s) s n) (bH procs l s n).writes;have:=d.wl;omega
     .rcases fO b with b|⟨b,_⟩
      .exact c.vs p b
      .exact d.wv p b
    .exact⟨Hi _ _,c.vs⟩
   exact⟨ae,⟨ae,f.2⟩⟩
def Fh(h:nH procs l)(a:s.length<=1048576/\∀p∈s,er p.v)(n:Nat)(b:n<l.length):rP (bH procs l s n):=by
 have c:ec l n∈l:=by rw[gQ n b];exact List.getElem_mem _
 exact lr (h.ok _ c) (mI h a n ae).2
def KU{n:Nat}(h:∀i,i<n->D i=true):mW D (bH procs l s) n=(List.range n).map (bH procs l s):=by
 refine List.map_congr_left λi a=>?_
 rw[h i (List.mem_range.1 a),aq rfl]
end
def kH(D:Nat->Bool):Nat->Nat
 |0=>0
 |n+1=>kH D n+(D n).toNat
def Ed(D:Nat->Bool):∀n,kH D n<=n
 |0=>Nat.le_refl _
 |n+1=>by have:=Ed D n;have:(D n).toNat<=1:=Bool.toNat_le _;simp only[kH];omega
def Ba{D D':Nat->Bool}:∀{n:Nat},(∀i,i<n->D i=D' i)->kH D n=kH D' n
 |0,_=>rfl
 |n+1,h=>by rw[kH,kH,h n ae,Ba (D':=D') λi a=>h i ae]
def uW{D:Nat->Bool}{x:Nat}(a:D x=false):∀{n:Nat},x<n->kH (j2 D x) n=kH D n+1
 |0,h=>ae
 |n+1,h=>by
  simp only[kH];by_cases e:x=n
  .subst e;rw[Ba (D':=D) (D:=j2 D x) λi b=>by simp[j2];omega,a];simp[j2]
  .rw[uW a ae];have:j2 D x n=D n:=by simp[j2];omega
   rw[this];omega
def vj{D:Nat->Bool}:∀{n:Nat},kH D n=n->∀i,i<n->D i=true
 |0,_,i,a=>ae
 |n+1,h,i,a=>by
  simp only[kH]at h;have c:=Ed D n;have d:(D n).toNat<=1:=Bool.toNat_le _;by_cases e:i=n
  .subst e;cases b:D i with
   |true=>rfl
   |false=>rw[b]at h;simp at h;omega
  .exact vj (n:=n) ae i ae
def JV{D:Nat->Bool}:∀{n:Nat},kH D n<n->∃i,i<n/\D i=false/\∀j,j<i->D j=true
 |0,h=>ae
 |n+1,h=>by
  simp only[kH]at h;have b:=Ed D n;by_cases e:kH D n=n
  .refine⟨n,ae,?_,vj e⟩;cases a:D n with
   |false=>rfl
   |true=>rw[a]at h;simp at h;omega
  .obtain⟨i,c,r⟩:=JV (D:=D) (n:=n) ae;exact⟨i,ae,r⟩
def s6:∀n,kH (λ_=>false) n=0
 |0=>rfl
 |n+1=>by simp[kH,s6 n]
def jR(l:List Tx)(D:Nat->Bool)(n:Nat):List Nat:=(List.range n).filter (ts (om l) D)
def Mc(l:List Tx)(D:Nat->Bool)(n:Nat):jR l D (n+1)=jR l D n++if ts (om l) D n then[n]else[]:=by
 unfold jR;rw[List.range_succ,List.filter_append];congr 1;by_cases h:ts (om l) D n=true<;>simp[h]
def Qp(l:List Tx)(D:Nat->Bool)(n:Nat):(jR l D n).length<=n:=by
 have:=List.length_filter_le (ts (om l) D) (List.range n);simpa[jR]using this
def Qv{l:List Tx}{D:Nat->Bool}{n:Nat}(h:kH D n<n):0<(jR l D n).length:=by
 obtain⟨i,b,c,d⟩:=JV h;refine List.length_pos_of_mem (a:=i) ?_;unfold jR;rw[List.mem_filter];refine⟨List.mem_range.2 b,?_⟩;simp only[ts,c,Bool.not_false,Bool.true_and,kD,List.any_eq_false];intro j e;rw[d j (ED.1 e).1];simp
def Ri{l:List Tx}{D:Nat->Bool}{n x:Nat}(h:x∈jR l D n):x<n/\ts (om l) D x=true:=by
 unfold jR at h;rw[List.mem_filter]at h;exact⟨List.mem_range.1 h.1,h.2⟩
end
section
open Go Go.Dv
abbrev Rq:=Int×Bool
def zI(r:Rq):List PV:=[.int .i64 r.1,.bool r.2]
def bM(l:List Rq):List (List PV):=l.map zI
def aE(l:List Rq):(bM l).length=l.length:=by simp[bM]
def iq(l:List Rq)(i:Nat)(h:i<l.length):(bM l)[i]?=some [.int .i64 l[i].1,.bool l[i].2]:=by simp[bM,zI,h]
def wg(l r:List Rq):bM l++bM r=bM (l++r):=by simp[bM]
def j4(l:List Rq)(n:Nat):(bM l).take n=bM (l.take n):=by simp[bM,List.map_take]
def IX(l:List Rq)(n:Nat):(bM l).drop n=bM (l.drop n):=by simp[bM,List.map_drop]
def zE(l:List Rq):bT 2 (bM l)=true:=by simp[bT,bM,zI]
def C2(x:Int)(b:Bool):[[PV.int .i64 x,PV.bool b]]=bM [(x,b)]:=rfl
structure Qu where
 key:ByteArray
 fl:Bool
 reqs:List Rq
def HN(q:Qu):List PV:=[.str q.key,.slice q.fl (bM q.reqs)]
def dL(l:List Qu):List (List PV):=l.map HN
def cE(l:List Qu):(dL l).length=l.length:=by simp[dL]
def kZ(l:List Qu)(i:Nat)(h:i<l.length):(dL l)[i]?=some [.str l[i].key,.slice l[i].fl (bM l[i].reqs)]:=by simp[dL,HN,h]
def vL(l r:List Qu):dL l++dL r=dL (l++r):=by simp[dL]
def yY(l:List Qu):bT 2 (dL l)=true:=by simp[bT,dL,HN]
structure Tb where
 gf:Bool
 g:List Rq
 qf:Bool
 qs:List Qu
def lT(t:Tb):List PV:=[.slice t.gf (bM t.g),.slice t.qf (dL t.qs)]
abbrev Qd:=ByteArray×List Rq
abbrev Td:=List Rq×List Qd
def Qu.d(q:Qu):Qd:=(q.key,q.reqs)
def Tb.d(t:Tb):Td:=(t.g,t.qs.map Qu.d)
def fN(l:List Rq)(i:Nat)(h:i<l.length):l.getD i (0,false)=l[i]:=by
 rw[List.getD_eq_getElem?_getD,List.getElem?_eq_getElem h];rfl
def kd{n:Nat}{p:Nat->Bool}:(List.range n).all p=true↔∀j,j<n->p j=true:=by
 rw[List.all_eq_true];exact⟨λh j a=>h j (List.mem_range.2 a),λh j a=>h j (List.mem_range.1 a)⟩
def Bu{n:Nat}{p:Nat->Bool}{j:Nat}(a:j<n)(h:p j=false):(List.range n).all p=false:=by
 rw[List.all_eq_false];exact⟨j,List.mem_range.2 a,by simp[h]⟩
def Da{p:Nat->Bool}{i:Nat}(a:∀j,j<i->p j=true)(h:p i=true):∀j,j<i+1->p j=true:=by
 intro j b;rcases bS j i with c|c
 .exact a j c
 .have e:j=i:=ae;rw[e];exact h
def BU(l:List Rq)(i:Nat):Bool:=decide (0<=(l.getD i (0,false)).1)&&(decide (i=0)||decide ((l.getD (i-1) (0,false)).1<(l.getD i (0,false)).1))
def qN(l:List Rq):Bool:=(List.range l.length).all (BU l)
def Y8(l:List Rq)(b:Bool)(C:l.length<=8388608)(K:Ex->St->Prop)
  (v:(∀j,j<l.length->BU l j=true)->K (.exit 0) ⟨[],[],0,[0]⟩)
  (w:(∃j,j<l.length/\BU l j=false)->∀n,ag n.env 2=some (.p (.bool false))->K .ret n):∀(m i:Nat),i+m=l.length->(∀j,j<i->BU l j=true)->
  ∀(e:Env),e=[(0,.p (.slice b (bM l))),(5,.p (.slice b (bM l))),(6,.p (.int .i64 l.length)),(7,.p (.int .i64 i))]->
  W tb ti ⟨e,[],0,[0]⟩ (LK tb (.ghost (.free [4]) (.ghost .lower ti)) K):=by
 intro m;induction m with
 |zero=>
  rintro i x s e rfl;have d:¬(i:Int)<l.length:=ae;refine aH ti.eq_1 ?_;refine gN d (k1 ?_);exact v (λj D=>s j ae)
 |succ m y=>
  rintro i x s e rfl;have d:(i:Int)<l.length:=ae;have t:i<l.length:=ae;have f:(0:Int)<=i:=ae;have g:=iq l i t;have a:BU l i=(decide (0<=l[i].1)&&(decide (i=0)||decide ((l.getD (i-1) (0,false)).1<l[i].1))):=by unfold BU;rw[fN l i t]
  have o:BU l i=false->∀n,ag n.env 2=some (.p (.bool false))->K .ret n:=λh=>w ⟨i,t,h⟩
  have p:BU l i=true->∀e,e=[(0,.p (.slice b (bM l))),(5,.p (.slice b (bM l))),(6,.p (.int .i64 l.length)),(7,.p (.int .i64 ((i+1:Nat):Int)))]->W tb ti ⟨e,[],0,[0]⟩ (LK tb (.ghost (.free [4]) (.ghost .lower ti)) K):=λh e z=>
   y (i+1) ae (Da s h) e z
  refine aH ti.eq_1 ?_;by_cases k:l[i].1<0
  .refine gN (fW d g f k) (k1 ?_);exact o (by rw[a,lR ae];rfl) _ rfl
  .by_cases u:i=0
   .have k0:¬(0:Int)<(i:Int):=ae;refine gN (dP d g f k k0) (k1 ?_);refine fJ (aU ?_);refine ew ?_;exact p (by rw[a,jl ae,jl u];rfl) _ rfl
   .have k0:(0:Int)<(i:Int):=ae;have k1:(i:Int)-1=((i-1:Nat):Int):=ae;have q:=iq l (i-1) ae;have A:=fN l (i-1) ae;rw[A,lR u,Bool.false_or]at a;have k2:(0:Int)<=((i-1:Nat):Int):=ae;by_cases r:l[i].1<=l[i-1].1
    .repeat'(first|(simp(disch:=omega) only[go_sem,seval,reduceCtorEq,d,g,f,k,k0,k1,k2,q,r])|with_reducible exact Ev.mk|((first|apply aY|apply aQ)<;>intro c B<;>(simp(disch:=omega) only[go_sem,seval,reduceCtorEq,d,g,f,k,k0,k1,k2,q,r,c])<;>clear c))
     exact o (by rw[a,jl ae,lR ae];rfl) _ rfl
    .repeat'(first|(simp(disch:=omega) only[go_sem,seval,reduceCtorEq,d,g,f,k,k0,k1,k2,q,r])|with_reducible exact Ev.mk|((first|apply aY|apply aQ)<;>intro c B<;>(simp(disch:=omega) only[go_sem,seval,reduceCtorEq,d,g,f,k,k0,k1,k2,q,r,c])<;>clear c))
     refine fJ (aU ?_);refine ew ?_;exact p (by rw[a,jl ae,jl ae];rfl) _ rfl
def O8(l:List Rq)(b:Bool)(a:l.length<=8388608):PS tb 69 [.slice b (bM l)] (.bool (qN l)):=by
 refine bD (af:=Ya) rfl rfl ?_;unfold Ya;dsimp only[List.map,aI,ai];refine gN @aE (k1 ?_);refine aU ?_;refine ew ?_;refine Y8 l b a _ ?_ ?_ l.length 0 ae az _ rfl
 .intro c;have e:qN l=true:=kd.2 c;refine gN trivial (k1 ?_);all_goals simp[aS,dep,e]
 .rintro⟨j,d,h⟩ g f;have e:qN l=false:=Bu d h
  (try simp(disch:=omega) only[go_sem,seval,reduceCtorEq,f])
  simp[aS,dep,e]
def cO(l:List Rq)(x:Int):Nat:=l.findIdx λr=>r.1==x
def qu(l:List Rq)(x:Int):Int:=if cO l x<l.length then(cO l x:Int)else-1
def wH{l:List Rq}{x:Int}{i:Nat}(h:i<l.length)(b:∀(j:Nat) (a:j<l.length),j<i->¬l[j].1=x)(c:l[i].1=x):cO l x=i:=by
 unfold cO;rw[List.findIdx_eq h];exact⟨by simp[c],λj a=>by simpa using b j ae a⟩
def Cv{l:List Rq}{x:Int}(b:∀(j:Nat) (a:j<l.length),¬l[j].1=x):cO l x=l.length:=by
 unfold cO;rw[List.findIdx_eq_length];intro r c;obtain⟨j,a,rfl⟩:=List.getElem_of_mem c;simpa using b j a
def UE(r:Rq)(x:Int):PS tb 73 [.agg (zI r),.dT [.int .i64 x]] (.bool (r.1==x)):=by
 refine bD (af:=Y9) rfl rfl ?_;unfold Y9;dsimp only[List.map,aI,ai,zI];exact gN trivial k0;all_goals simp[aS,dep]
def YS(l:List Rq)(b:Bool)(x:Int)(v:l.length<=8388608)(K:Ex->St->Prop)
  (p:qu l x=-1->K (.exit 0) ⟨[],[],0,[0]⟩)
  (r:∀k,ag k.env 4=some (.p (.int .i64 (qu l x)))->K .ret k):∀(m i:Nat),i+m=l.length->(∀(j:Nat) (a:j<l.length),j<i->¬l[j].1=x)->
  W tb pf ⟨[(0,.p (.slice b (bM l))),(1,.p (.func 73 [.dT [.int .i64 x]])),(7,.p (.int .i64 l.length)),(8,.p (.int .i64 i))],[],0,[0]⟩ (LK tb (.ghost .lower pf) K):=by
 intro m;induction m with
 |zero=>
  rintro i s d;have e:¬(i:Int)<l.length:=ae;refine aH pf.eq_1 ?_;refine gN e (k1 ?_);refine p ?_;have:=Cv (l:=l) (x:=x) λj a=>d j a ae
  unfold qu;rw[ak ae]
 |succ m t=>
  rintro i s d;have e:(i:Int)<l.length:=ae;have f:i<l.length:=ae;have n:(0:Int)<=i:=ae;have o:=iq l i f;have q:=UE l[i] x;simp only[zI]at q;refine aH pf.eq_1 ?_;by_cases c:l[i].1=x
  .have h:(l[i].1==x)=true:=by simp[c]
   rw[h]at q;refine gP (dS e o n) q (k1 ?_);refine r _ ?_;have:=wH f d c;unfold qu;rw[this,aq f];rfl
  .have h:(l[i].1==x)=false:=by simp[c]
   rw[h]at q;refine gP (dS e o n) q (k1 ?_);refine fJ (aU ?_);refine ew ?_;refine t (i+1) ae λj a u=>?_
   rcases bS j i with g|g
   .exact d j a g
   .have:j=i:=ae;subst this;exact c
def Un(l:List Rq)(b:Bool)(x:Int)(a:l.length<=8388608):PS tb 72 [.slice b (bM l),.func 73 [.dT [.int .i64 x]]] (.int .i64 (qu l x)):=by
 refine bD (af:=a72) rfl rfl ?_;unfold a72;dsimp only[List.map,aI,ai];refine gN @aE (k1 ?_);refine aU ?_;refine ew ?_;refine YS l b x a _ ?_ ?_ l.length 0 ae (λj d h=>ae)
 .intro e;refine gN trivial (k1 ?_);all_goals simp[aS,dep,e]
 .intro f c
  (try simp(disch:=omega) only[go_sem,seval,reduceCtorEq,c])
  try simp[aS,dep]
def qp(l:List Rq)(b:Bool)(x:Int)(a:l.length<=8388608):PS tb 42 [.slice b (bM l),.int .i64 x] (.int .i64 (qu l x)):=by
 refine bD (af:=Yl) rfl rfl ?_;unfold Yl;dsimp only[List.map,aI,ai];exact gP trivial (Un l b x a) k0;all_goals simp[aS,dep]
end
end Go.Dv.Tryz
