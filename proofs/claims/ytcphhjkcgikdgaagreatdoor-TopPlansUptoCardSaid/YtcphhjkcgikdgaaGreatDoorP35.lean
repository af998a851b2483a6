/- Lemmas for the law of this claim. -/
import Derived.Test.YtcphhjkcgikdgaaGreatDoorP34
import Derived.Test.YtcphhjkcgikdgaaGreatDoorP32
set_option linter.all false
set_option maxRecDepth 100000
set_option maxHeartbeats 8000000
namespace Go.Dv.Tryz
section
open Go Go.Dv
def Hn(p:List DV)(n:Nat)(o:List ByteArray):Heap:=[(4,.var false [.p (.int .i64 n),.func 201 [.ptr 1 0],.func 200 []]),(3,.var false p),(2,.row false 1 (aA o)),(1,.var false [.ref 2 o.length 0 o.length]),(0,.var false p)]
def Ul(o:List ByteArray)(b:aX)(d:Int):List ByteArray:=match b with
 | .mk a name _ _ _ _ _ _ _=>if a=1\/a=6 then o++[name]else o
def Ts(p:Pc):WF 5 4 (Hn (fh p)) (.func 201 [.ptr 1 0]) (.func 200 []) where
 wb:=ae
 gw:=λn s=>rfl
 sw:=λn s m=>rfl
 ba:=λn s c hc=>by
  have h4:4<c:=ae;have h3:3<c:=ae;have h2:2<c:=ae;have h1:1<c:=ae;have h0:0<c:=ae;simp[Hn,az,h4,h3,h2,h1,h0]
 al:=λn s c hc=>by
  have h1:1<c:=ae;have h2:2<c:=ae;simp[Hn,cL,ca.below,below,dep,h1,h2]
 no:=λn s c hc=>by
  have h4:¬4=c:=ae;have h3:¬3=c:=ae;have h2:¬2=c:=ae;have h1:¬1=c:=ae;have h0:¬0=c:=ae;simp[Hn,ah,h4,h3,h2,h1,h0]
def JH(p:List DV)(n:Nat)(o:List ByteArray)(k:ByteArray):aH (aH (Hn p n o) 2 (.row false 1 (aA (o++[k])))) 1 (.var false [.ref 2 (o.length+1) 0 (o.length+1)])=Hn p n (o++[k]):=by simp[Hn,aH]
def vv(o:List ByteArray)(k:ByteArray):aA o++[[.str k]]=aA (o++[k]):=by simp[aA]
def LS(p:Pc){L:Heap}{i:Nat}(h:sq 5 L i)(n:Nat)(o:List ByteArray)(D:o.length<=2097152)(k:aX)(d:Int):BS tb 201 [.agg k.d,.p (.int .i64 d),.ptr 1 0] (L++Hn (fh p) n o) i (.tuple []) (L++Hn (fh p) n (Ul o k d)) i:=by
 have g:=(Ts p).g h;obtain⟨e,name,max,a,b,f,t,E,A⟩:=k;have l:∀o,ah (L++Hn (fh p) n o) 1=some (.var false [.ref 2 o.length 0 o.length]):=λo=>by rw[cW (h.no 1 (.inr ae))];rfl
 have m:∀o,ah (L++Hn (fh p) n o) 2=some (.row false 1 (aA o)):=λo=>by rw[cW (h.no 2 (.inr ae))];rfl
 have u:∀o b,aH (L++Hn (fh p) n o) 2 b=L++aH (Hn (fh p) n o) 2 b:=λo b=>fU (h.no 2 (.inr ae))
 have v:∀o b c,aH (L++aH (Hn (fh p) n o) 2 b) 1 c=L++aH (aH (Hn (fh p) n o) 2 b) 1 c:=λo b c=>fU (h.no 1 (.inr ae))
 have w:∀o b,ah (L++aH (Hn (fh p) n o) 2 b) 1=some (.var false [.ref 2 o.length 0 o.length]):=λo b=>by rw[cW (h.no 1 (.inr ae))];rfl
 have B:=h.ge;have q:(i==1)=false:=er.2 ae;have r:(i==2)=false:=er.2 ae;have x:(o.length+1)*16<=ak:=by simp only[ak];omega
 have y:o.length+1<=ak:=by simp only[ak];omega
 have z:bV 1 [[PV.str name]]=true:=rfl;simp only[aX.d,bA];refine cH (af:=a201) rfl rfl ?_;unfold a201;dsimp only[aj];unfold Ul;by_cases j:e=1
 .simp only[aq (Or.inl j:e=1\/e=6)];exact gN (aah g.n0 g.b0 g.l0 g.b1 g.l1 l m w v u q r (aZ j) @aE vv @JH x y z) k0
 .by_cases s:e=6
  .simp only[aq (Or.inr s:e=1\/e=6)];exact gN (Z2 g.n0 g.b0 g.l0 g.b1 g.l1 l m w v u q r j (aZ s) @aE vv @JH x y z) k0
  .have C:¬(e=1\/e=6):=ae;simp only[an C];exact gN (j0 g.n0 g.b0 g.l0 g.b1 g.l1 l m q r j s) k0
def UN(p:Pc):WC 5 4 (Hn (fh p)) 201 [.ptr 1 0] 200 [] (λn o=>o.length+n<=2097152) Ul (λs _=>s) where
 wf:=Ts p
 mono:=λh1 h2=>ae
 S:=λh n o st d hst hz _ hi=>LS p h n o ae st d
 R:=λh n s e _ _ _ _ _=>by
  have g:=(Ts p).g h;exact D8 (L:=[]) e (g.n0 n s) (g.b0 n s) (g.l0 n s)
 iS:=λ{n s st d} h=>by
  obtain⟨op,name,max,a,b,f,body,gg,els⟩:=st;simp only[Ul];split
  .simp only[List.length_append,List.length_cons,List.length_nil];omega
  .omega
 iR:=λh=>ae
noncomputable def BQ (p:Pc) (o:List ByteArray):Nat×List ByteArray:=oP Ul (λs _=>s) p.body 1 (401,o)
def OF(p:Pc)(o:List ByteArray)(c:o.length<=1048576)(b:cD p.body)(d:dF p.body<=1048576):BS tb 197 [.agg (fh p),.func 201 [.ptr 1 0],.func 200 []] [(2,.row false 1 (aA o)),(1,.var false [.ref 2 o.length 0 o.length]),(0,.var false (fh p))] 3 (.p (.int .i64 (401-(BQ p o).1)))
  [(2,.row false 1 (aA (BQ p o).2)),(1,.var false [.ref 2 (BQ p o).2.length 0 (BQ p o).2.length]),(0,.var false (fh p))] 3:=by
 have h:=pK (UN p) 1048577 p.body ae ae b p.fb [] 5 401 o 1 (F3 5) ae ae;have a:=(kT (UN p) p.body 1 (401,o) (by simp only;omega)).2;refine cH (af:=C6) rfl rfl ?_;unfold C6;dsimp only[aj]
 change BS tb _ _ (Hn (fh p) 401 o) 5 _ (Hn (fh p) (BQ p o).1 (BQ p o).2) 5 at h
 change(BQ p o).1<=401 at a
 generalize BQ p o=x at h a⊢;simp only[Hn]at h;exact gR trivial trivial h k0;all_goals simp
noncomputable def yD (p:Pc):List ByteArray:=(BQ p (p.ps.map (·.name))).2
def AH(p:Pc)(h:jM p):(yD p).length<=2097152:=by
 have:=(kT (UN p) p.body 1 (401,p.ps.map (·.name)) (by simp only[List.length_map];have:=h.pl;omega)).1;simp only[yD,BQ];omega
def O6(p:Pc)(h:jM p):PS tb 165 [.agg (cq p)] (.slice false (aA (yD p))):=by
 have f:=h.pl;have d:=OF p (p.ps.map (·.name)) (by rw[List.length_map];exact f) h.bo h.bz;have b:=AH p h;unfold yD at b⊢;generalize BQ p (p.ps.map (·.name))=x at d b⊢;refine bM (af:=Um) rfl rfl ?_;unfold Um;dsimp only[List.map,aQ,aj,cq];refine gN (bf @b6 bC) (k1 ?_);refine bU (λj k=>∃i:Nat,i+j=p.ps.length/\k=⟨[(1,.ptr 0 0),(3,.ptr 1 0),(7,.p (.slice p.fp (e9 p.ps))),(8,.p (.int .i64 p.ps.length)),(9,.p (.int .i64 i))],[(2,.row false 1 (aA ((p.ps.take i).map (·.name)))),(1,.var false [.ref 2 i 0 i]),(0,.var false (fh p))],3,[0]⟩) ?_ p.ps.length _ ⟨0,ae,rfl⟩;rintro j k ⟨i,t,rfl⟩;refine bq Jh.eq_1 ?_;rcases cK i p.ps.length with c|c
 .have a:(i:Int)<p.ps.length:=ae;have l:(0:Int)<=i:=ae;have m:=lT p.ps i c;have n:(i+1)*16<=ak:=by simp only[ak];omega
  have o:i+1<=ak:=by simp only[ak];omega
  have q:bV 1 [[PV.str p.ps[i].name]]=true:=rfl;have r:(aA ((p.ps.take i).map (·.name))).length=i:=by simp[aA];omega
  have s:aA ((p.ps.take i).map (·.name))++[[.str p.ps[i].name]]=aA ((p.ps.take (i+1)).map (·.name)):=by rw[List.take_succ_eq_append_getElem c];simp only[aA,List.map_append,List.map_cons,List.map_nil]
  refine gN (ow a l m n o q r s @b6) (k1 ?_);exact LI.next (m':=j-1) ae ⟨i+1,ae,rfl⟩
 .have a:¬(i:Int)<p.ps.length:=ae;have g:i=p.ps.length:=ae;rw[List.take_of_length_le c];rw[List.length_map]at d;rw[g];have a:¬(p.ps.length:Int)<p.ps.length:=ae;repeat'(first|exact d|(simp(disch:=omega) only[go_sem,seval,reduceCtorEq,a,aE,List.take_of_length_le])|with_reducible exact Ev.mk|refine xY ?_|apply tY|(refine cB (by first|with_reducible exact Ev.mk|(simp(disch:=omega) only[go_sem,seval,reduceCtorEq,a,aE,List.take_of_length_le];done)|(simp(disch:=omega) only[go_sem,seval,reduceCtorEq,a,aE,List.take_of_length_le];with_reducible exact Ev.mk)) (by first|with_reducible exact Ev.mk|(simp(disch:=omega) only[go_sem,seval,reduceCtorEq,a,aE,List.take_of_length_le];done)|(simp(disch:=omega) only[go_sem,seval,reduceCtorEq,a,aE,List.take_of_length_le];with_reducible exact Ev.mk)) (d) (by first|with_reducible exact Ev.mk|(simp(disch:=omega) only[go_sem,seval,reduceCtorEq,a,aE,List.take_of_length_le];done)|(simp(disch:=omega) only[go_sem,seval,reduceCtorEq,a,aE,List.take_of_length_le];with_reducible exact Ev.mk)) ?_)|(refine dh (by first|with_reducible exact Ev.mk|(simp(disch:=omega) only[go_sem,seval,reduceCtorEq,a,aE,List.take_of_length_le];done)|(simp(disch:=omega) only[go_sem,seval,reduceCtorEq,a,aE,List.take_of_length_le];with_reducible exact Ev.mk)) (d) ?_)|((first|apply b5|apply bO)<;>intro e u<;>(simp(disch:=omega) only[go_sem,seval,reduceCtorEq,a,aE,List.take_of_length_le,e])<;>clear e))
  rw[List.take_of_length_le (by rw[aE];omega)]
end
section
open Go Go.Dv
def XH{P:List PV->Prop}{f:FuncId}{af:au}(b:tb.A f=some af){args:List PV}(c:args.length=af.nparams)
  (h:W tb af.body {env:=aj 0 (args.map aQ),heap:=[],next:=0,marks:=[0]} (ic af.results λv s=>∃n:{l:List PV//P l},bE s.heap dep v=some (.agg n.1)))(a:af.rs=false:=by rfl):∃l:List PV,PS tb f args (.agg l)/\P l:=by
 obtain⟨⟨n,d⟩,h⟩:=nq (T:=tb) b c h (hrs:=a);exact⟨n,h,d⟩
def JP(e:aF)(l:List PV):Prop:=∃f a,l=[.int .i64 e.op,.int .i64 e.n,.str e.s,.slice f a]/\dO a=true/\a.length<=1048576/\(aR a).length+1<=e.sz
def JP.four{e:aF}{l:List PV}(h:JP e l):l.length=4:=by obtain⟨f,a,rfl,_⟩:=h;rfl
def JP.row{e:aF}{l:List PV}(h:JP e l):dO [l]=true/\(aR [l]).length<=e.sz:=by
 obtain⟨f,b,rfl,a,c,d⟩:=h;refine⟨?_,?_⟩
 .simp only[dO,yQ,rP,a,Bool.and_true,Bool.true_and,cp];omega
 .simp only[aR,w9,GP,List.nil_append,List.append_nil,List.length_append,List.length_cons,List.length_nil];omega
def sE:∀(l:List aF) (e:aF),cI (l++[e])=cI l+e.sz
 |[],e=>by simp[cI]
 |x::l,e=>by simp only[List.cons_append,cI,sE l e];omega
def JM{n:Nat}{a:List (List PV)}{y:List PV}(h:bV n a=true)(b:y.length=n):bV n (a++[y])=true:=by
 simp only[bV,List.all_append,List.all_cons,List.all_nil,Bool.and_true,aO,cw]at h⊢;exact⟨h,b⟩
def Cs:∀(k:Nat) (e:aF),e.sz<=k->k<=1048576->∃l:List PV,PS tb 205 [.agg [.int .i64 e.op,.int .i64 e.n,.str e.s,.slice e.f (aJ e.xs)]] (.agg l)/\JP e l
 |0,e,n,_=>by cases e;simp[aF.sz]at n
 |k+1,e,n,H=>by
  have x:e.xs.length<=1048576:=by have:=bI e.xs;rw[aF.fj]at n;omega
  have p:cI e.xs<=k:=by rw[aF.fj]at n;omega
  refine XH (af:=Sk) rfl rfl ?_;unfold Sk;dsimp only[List.map,aQ,aj];refine gN (bf @aD bC) (k1 ?_);refine bU (λj q=>∃i:Nat,i+j=e.xs.length/\((i=0/\q=⟨[(1,.ptr 0 0),(2,.ptr 1 0),(9,.p (.slice e.f (aJ e.xs))),(10,.p (.int .i64 e.xs.length)),(11,.p (.int .i64 0))],[(1,.var false [.p (.int .i64 0),.p (.int .i64 0),.p (.str ⟨#[]⟩),.p (.slice true [])]),(0,.var false [.p (.int .i64 e.op),.p (.int .i64 e.n),.p (.str e.s),.p (.slice true [])])],2,[0]⟩)\/
   ∃a:List (List PV),a.length=i/\bV 4 a=true/\(dO a=true/\(aR a).length<=cI (e.xs.take i))/\q=⟨[(1,.ptr 0 0),(2,.ptr 1 0),(9,.p (.slice e.f (aJ e.xs))),(10,.p (.int .i64 e.xs.length)),(11,.p (.int .i64 i))],[(3,.row false 4 a),(1,.var false [.p (.int .i64 0),.p (.int .i64 0),.p (.str ⟨#[]⟩),.p (.slice true [])]),(0,.var false [.p (.int .i64 e.op),.p (.int .i64 e.n),.p (.str e.s),.ref 3 i 0 i])],4,[0]⟩)) ?_ e.xs.length _ ⟨0,ae,.inl ⟨rfl,rfl⟩⟩
  rintro j q ⟨i,I,g⟩;refine bq JV.eq_1 ?_;rcases cK i e.xs.length with c|c
  .have y:(0:Int)<=i:=ae;have r:=jh e.xs i c;rw[aF.pM]at r;have b:(i:Int)<e.xs.length:=ae;obtain⟨l,z,A⟩:=Cs k e.xs[i] (dL (ja (List.getElem_mem c)) p) ae;obtain⟨B,J⟩:=A.row;have s:=A.four;have h:e.xs.take (i+1)=e.xs.take i++[e.xs[i]]:=List.take_succ_eq_append_getElem c;rcases l with _|⟨t,_|⟨u,_|⟨v,_|⟨w,_|⟨K,l⟩⟩⟩⟩⟩<;>simp at s
   have C:(i+1)*56<=ak:=by simp only[ak];omega
   have D:i+1<=ak:=by simp only[ak];omega
   have E:bV 4 [[t,u,v,w]]=true:=rfl;rcases g with⟨rfl,rfl⟩|⟨a,o,d,⟨f,m⟩,rfl⟩
   .have b:(0:Int)<e.xs.length:=ae;have F:56<=ak:=by simp only[ak];omega
    have G:1<=ak:=by simp only[ak];omega
    refine gP (pL b y r @aD bC E C D F G) z (k1 ?_);exact LI.next (m':=j-1) ae ⟨1,ae,.inr ⟨[[t,u,v,w]],rfl,rfl,⟨B,by rw[h,sE];omega⟩,rfl⟩⟩
   .refine gP (pL b y r @aD bC E C D o d) z (k1 ?_);exact LI.next (m':=j-1) ae ⟨i+1,ae,.inr ⟨a++[[t,u,v,w]],by simp[o],JM d rfl,⟨by rw[nF,f,B];rfl,by rw[h,sE,lN,List.length_append];omega⟩,rfl⟩⟩
  .have b:¬(i:Int)<e.xs.length:=ae;rcases g with⟨rfl,rfl⟩|⟨a,o,d,⟨f,m⟩,rfl⟩
   .have b:¬(0:Int)<e.xs.length:=ae;refine gN (bf b bC) (k1 ?_);exact⟨⟨_,true,[],rfl,rfl,aB,by simp only[aR,List.length_nil];rw[aF.fj];omega⟩,rfl⟩
   .rw[List.take_of_length_le c]at m;refine gN (c9 b bC o) (k1 ?_);exact⟨⟨_,false,a,rfl,f,ae,by rw[aF.fj];omega⟩,by rw[List.take_of_length_le ae]⟩
end
section
open Go Go.Dv
noncomputable def Vh (e:aF):List PV:=Classical.epsilon λl=>PS tb 205 [.agg [.int .i64 e.op,.int .i64 e.n,.str e.s,.slice e.f (aJ e.xs)]] (.agg l)/\JP e l
def FZ(e:aF)(a:e.sz<=1048576):PS tb 205 [.agg [.int .i64 e.op,.int .i64 e.n,.str e.s,.slice e.f (aJ e.xs)]] (.agg (Vh e))/\JP e (Vh e):=
 j9 (p:=λl=>PS tb 205 [.agg [.int .i64 e.op,.int .i64 e.n,.str e.s,.slice e.f (aJ e.xs)]] (.agg l)/\JP e l) (Cs e.sz e (Nat.le_refl _) a)
def He(p:List DV)(n:Nat)(o:List (List PV)):Heap:=[(4,.var false [.p (.int .i64 n),.func 203 [],.func 204 [.ptr 1 0]]),(3,.var false p),(2,.row false 4 o),(1,.var false [.ref 2 o.length 0 o.length]),(0,.var false p)]
noncomputable def EH (o:List (List PV)) (e:aF):List (List PV):=o++[Vh e]
def Uy(p:Pc):WF 5 4 (He (fh p)) (.func 203 []) (.func 204 [.ptr 1 0]) where
 wb:=ae
 gw:=λn s=>rfl
 sw:=λn s m=>rfl
 ba:=λn s c hc=>by
  have h4:4<c:=ae;have h3:3<c:=ae;have h2:2<c:=ae;have h1:1<c:=ae;have h0:0<c:=ae;simp[He,az,h4,h3,h2,h1,h0]
 al:=λn s c hc=>by
  have h1:1<c:=ae;have h2:2<c:=ae;simp[He,cL,ca.below,below,dep,h1,h2]
 no:=λn s c hc=>by
  have h4:¬4=c:=ae;have h3:¬3=c:=ae;have h2:¬2=c:=ae;have h1:¬1=c:=ae;have h0:¬0=c:=ae;simp[He,ah,h4,h3,h2,h1,h0]
def SP(p:List DV)(n:Nat)(o:List (List PV))(k z:List PV):aH (aH (aH (He p n o) 2 (.row false 4 (o++[z]))) 2 (.row false 4 (o++[k]))) 1 (.var false [.ref 2 (o.length+1) 0 (o.length+1)])=He p n (o++[k]):=by simp[He,aH]
def Pn{a:Type}(o:List a)(z k:a):(o++[z]).set o.length k=o++[k]:=aB
def PT{a:Type}(o:List a)(z:a):(o++[z]).length=o.length+1:=aB
def Qm{a:Type}(o:List a)(z:a):(o++[z])[o.length]?=some z:=aB
def Lh(p:Pc){L:Heap}{a:Nat}(h:sq 5 L a)(n:Nat)(o:List (List PV))(E:o.length<=1048576)(e:aF)(k:e.sz<=1048576):BS tb 204 [.agg (yN e),.ptr 1 0] (L++He (fh p) n o) a (.tuple []) (L++He (fh p) n (EH o e)) a:=by
 have g:=(Uy p).g h;obtain⟨f,i⟩:=FZ e k;have j:=i.four;clear i;have m:∀o,ah (L++He (fh p) n o) 1=some (.var false [.ref 2 o.length 0 o.length]):=λo=>by rw[cW (h.no 1 (.inr ae))];rfl
 have q:∀o,ah (L++He (fh p) n o) 2=some (.row false 4 o):=λo=>by rw[cW (h.no 2 (.inr ae))];rfl
 have r:∀o b,aH (L++He (fh p) n o) 2 b=L++aH (He (fh p) n o) 2 b:=λo b=>fU (h.no 2 (.inr ae))
 have s:∀o b c,aH (L++aH (He (fh p) n o) 2 b) 2 c=L++aH (aH (He (fh p) n o) 2 b) 2 c:=λo b c=>fU (h.no 2 (.inr ae))
 have t:∀o b c d,aH (L++aH (aH (He (fh p) n o) 2 b) 2 c) 1 d=L++aH (aH (aH (He (fh p) n o) 2 b) 2 c) 1 d:=λo b c d=>fU (h.no 1 (.inr ae))
 have u:∀o b,ah (L++aH (He (fh p) n o) 2 b) 2=some b:=λo b=>by rw[cW (h.no 2 (.inr ae))];rfl
 have v:∀o b c,ah (L++aH (aH (He (fh p) n o) 2 b) 2 c) 1=some (.var false [.ref 2 o.length 0 o.length]):=λo b c=>by rw[cW (h.no 1 (.inr ae))];rfl
 have w:=h.ge;have x:(a==1)=false:=er.2 ae;have y:(a==2)=false:=er.2 ae;have z:(o.length+1)*56<=ak:=by simp only[ak];omega
 have A:o.length+1<=ak:=by simp only[ak];omega
 unfold EH;generalize Vh e=l at f j⊢;rcases l with _|⟨F,_|⟨G,_|⟨H,_|⟨I,_|⟨J,l⟩⟩⟩⟩⟩<;>simp at j
 have B:bV 4 [[PV.int .i64 0,PV.int .i64 0,PV.str ⟨#[]⟩,PV.slice true []]]=true:=rfl;refine cH (af:=To) rfl rfl ?_;unfold To;dsimp only[aj];have C:(o.length:Int)<(o.length+1:Nat):=ae;have D:(0:Int)<=o.length:=ae;exact gP (Cj g.n0<|Cj g.b0<|Cj g.l0<|Cj g.b1<|Cj g.l1<|Cj m<|Cj q<|Cj u<|Cj v<|Cj t<|Cj r<|Cj s<|Cj x<|Cj y<|Cj @SP<|Cj @Pn<|Cj @PT<|Cj @Qm<|Cj z<|Cj A<|Cj B<|Cj C<|D) f k0
def Lg{H:Heap}{c:Nat}(e:aX)(d:Int)(h:ah H c=none)(i:az c H=H)(j:cL c H=true):BS tb 203 [.agg e.d,.p (.int .i64 d)] H c (.tuple []) H c:=by
 obtain⟨l,name,max,a,b,f,g,m,k⟩:=e;simp only[aX.d,bA];refine cH (af:=a203) rfl rfl ?_;unfold a203;dsimp only[aj];exact gN (c9 h i j) k0
def RO(p:Pc):WC 5 4 (He (fh p)) 203 [] 204 [.ptr 1 0] (λn o=>o.length+n<=402) (λo _ _=>o) EH where
 wf:=Uy p
 mono:=λh1 h2=>ae
 S:=λh n o st d _ _ _ _=>by
  have g:=(Uy p).g h;exact Lg st d (g.n0 n o) (g.b0 n o) (g.l0 n o)
 R:=λh n o e _ hz _ _ hi=>Lh p h n o ae e hz
 iS:=λh=>ae
 iR:=λ{n s e} h=>by simp only[EH,List.length_append,List.length_cons,List.length_nil];omega
noncomputable def rj (p:Pc):Nat×List (List PV):=oP (λo _ _=>o) EH p.body 1 (401,[])
def HG(o:List (List PV)):Prop:=dO o=true/\(aR o).length<=o.length*1048576
def HG.snoc{o:List (List PV)}{e:aF}(h:HG o)(a:e.sz<=1048576):HG (EH o e):=by
 obtain⟨b,c⟩:=(FZ e a).2.row;unfold EH;refine⟨by rw[nF,h.1,b];rfl,?_⟩
 have:=h.2;rw[lN,List.length_append,List.length_append,List.length_singleton];omega
def Fy(e:aF)(a:e.sz<=1048576)(x:Nat×List (List PV))(h:HG x.2):HG (zz EH e x).2:=by
 unfold zz;split
 .exact h
 .exact h.snoc a
mutual
theorem OV(s:aX)(d:Int)(x:Nat×List (List PV))(i:s.ok)(h:HG x.2):HG (DZ (λo _ _=>o) EH s d x).2:=by
 cases s with
 |mk n name max a b f c g e=>
  simp only[aX.ok]at i;obtain⟨_,_,_,⟨_,j⟩,⟨_,k⟩,l,m⟩:=i;rw[DZ];exact uw e _ _ m (uw c _ _ l (Fy b k _ (Fy a j _ h)))
theorem uw(l:List aX)(d:Int)(x:Nat×List (List PV))(a:cD l)(h:HG x.2):HG (oP (λo _ _=>o) EH l d x).2:=by
 cases l with
 |nil=>rw[oP];exact h
 |cons s r=>
  simp only[cD]at a;rw[oP];split
  .exact h
  .exact uw r _ _ a.2 (OV s d x a.1 h)
end
def Qc(p:Pc)(b:cD p.body)(c:dF p.body<=1048576):BS tb 197 [.agg (fh p),.func 203 [],.func 204 [.ptr 1 0]] [(2,.row false 4 []),(1,.var false [.ref 2 0 0 0]),(0,.var false (fh p))] 3 (.p (.int .i64 (401-(rj p).1)))
  [(2,.row false 4 (rj p).2),(1,.var false [.ref 2 (rj p).2.length 0 (rj p).2.length]),(0,.var false (fh p))] 3:=by
 have h:=pK (RO p) 1048577 p.body ae ae b p.fb [] 5 401 [] 1 (F3 5) ae aB;have a:=(kT (RO p) p.body 1 (401,[]) aB).2;refine cH (af:=C6) rfl rfl ?_;unfold C6;dsimp only[aj]
 change BS tb _ _ (He (fh p) 401 []) 5 _ (He (fh p) (rj p).1 (rj p).2) 5 at h
 change(rj p).1<=401 at a
 generalize rj p=x at h a⊢;simp only[He]at h;exact gR trivial trivial h k0;all_goals simp
def OO(p:Pc)(h:jM p):PS tb 167 [.agg (cq p)] (.slice false (rj p).2):=by
 have a:=Qc p h.bo h.bz;generalize rj p=x at a⊢;refine bM (af:=a167) rfl rfl ?_;unfold a167;dsimp only[List.map,aQ,aj,cq];refine gR bC trivial a (k1 ?_);all_goals rw[List.take_of_length_le ae]
def B0(a:Int):∃b,PS tb 169 [.int .i64 a] (.bool b)/\True:=by
 refine tM (af:=T4) rfl rfl ?_;unfold T4;dsimp only[List.map,aQ,aj];refine hN trivial (k3 ?_ ?_ ?_)<;>(repeat with_reducible intro c)
 all_goals exact⟨⟨_,trivial⟩,rfl⟩
def J0:∀(l:List Int) (k:Nat),∃N,∀m,N<=m->∃r,ji (iO (dG tb.A tb.X m) 169) k l=some r
 |[],k=>⟨0,λm _=>⟨_,rfl⟩⟩
 |n::r,k=>by
  obtain⟨b,⟨c,d⟩,_⟩:=B0 n;obtain⟨e,f⟩:=J0 r (k+1);refine⟨max c e,λm a=>?_⟩;have g:iO (dG tb.A tb.X m) 169 n=some b:=by
   unfold iO;rw[(fN tb.A tb.X (dL (lZ _ _) a)).pure _ _ _ d]
  obtain⟨q,h⟩:=f m (dL (lU _ _) a);simp only[ji,g];cases b with
  |true=>exact⟨_,rfl⟩
  |false=>exact⟨q,h⟩
def Ki:∀(l:List Int),∃N,∀m,N<=m->l.all (λo=>(iO (dG tb.A tb.X m) 169 o).isSome)=true
 |[]=>⟨0,λm _=>rfl⟩
 |n::r=>by
  obtain⟨b,⟨c,d⟩,_⟩:=B0 n;obtain⟨e,f⟩:=Ki r;refine⟨max c e,λm a=>?_⟩;have g:iO (dG tb.A tb.X m) 169 n=some b:=by
   unfold iO;rw[(fN tb.A tb.X (dL (lZ _ _) a)).pure _ _ _ d]
  rw[List.all_cons,g,f m (dL (lU _ _) a)];rfl
def Pp(p:Pc)(h:jM p):rP (.slice false (rj p).2)=true/\(aR (rj p).2).length<=4611686018427387904:=by
 obtain⟨a,b⟩:=uw p.body 1 (401,[]) h.bo ⟨rfl,Nat.zero_le _⟩;have c:=(kT (RO p) p.body 1 (401,[]) aB).1
 change(rj p).2.length+(rj p).1<=402 at c
 change dO (rj p).2=true at a
 change(aR (rj p).2).length<=(rj p).2.length*1048576 at b
 refine⟨?_,ae⟩;simp only[rP,a,Bool.true_and,cp];omega
def PQ(p:Pc)(h:jM p):∃(n k:Int) (b:Bool),PS tb 133 [.agg (cq p)] (.tuple [.int .i64 n,.int .i64 k,.bool b]):=by
 obtain⟨e,⟨f,s⟩,_⟩:=rV p h;obtain⟨g,t⟩:=OO p h;obtain⟨N4,u⟩:=J0 (aR (rj p).2) 0;obtain⟨v,w⟩:=Ki (aR (rj p).2);obtain⟨x,y⟩:=Pp p h;obtain⟨i,z⟩:∃N,∀m,N<=m->∃r,vY (iO (dG tb.A tb.X m) 169) false (rj p).2=some r:=⟨max N4 v,λm c=>by
  unfold vY;rw[aq ⟨x,y,w m (dL (lU _ _) c)⟩];exact u m (dL (lZ _ _) c)⟩
 have l:tb.A 133=some IC:=rfl;have c:=λm (c:max f (max g i)<=m)=>(fN tb.A tb.X (dL (lZ _ _) c)).pure _ _ _ s
 have j:=λm (c:max f (max g i)<=m)=>(fN tb.A tb.X (dL (dL (lZ _ _) (lU _ _)) c)).pure _ _ _ t
 obtain⟨⟨n,k,b⟩,o⟩:=z (max f (max g i)) (dL (lU _ _) (lU _ _));have d:=c _ (Nat.le_refl _);have a:=j _ (Nat.le_refl _);generalize max f (max g i)=m at o d a;by_cases q:e=0
 .refine⟨n,k,b,m+1,?_⟩;rw[dG];simp only[l];unfold prun jH IC;simp only[gU,kZ,qQ];dsimp only[cq,List.map,aQ]at d a⊢;simp[cl,bE,dep,d,a,q,o]
 .refine⟨0,0,false,m+1,?_⟩;rw[dG];simp only[l];unfold prun jH IC;simp only[gU,kZ,qQ];dsimp only[cq,List.map,aQ]at d a⊢;simp[cl,bE,dep,d,a,q]
end
section
open Go Go.Dv
abbrev ES:=ByteArray->Option Int
def mZ(g:ES):SM:=λk=>(g k).map λz=>.one (.int .i64 z)
def Fv(g:ES)(k:ByteArray)(v:Option Int):ES:=λj=>if j=k then v else g j
def eM(g:ES)(k:ByteArray)(z:Int):fF (mZ g) k (some (.one (.int .i64 z)))=mZ (Fv g k (some z)):=by
 funext j;simp only[fF,mZ,Fv];split<;>rfl
def dU(g:ES)(k:ByteArray):fF (mZ g) k none=mZ (Fv g k none):=by
 funext j;simp only[fF,mZ,Fv];split<;>rfl
def Rt{f:FuncId}{af:au}(b:tb.A f=some af){args:List PV}(c:args.length=af.nparams)
  (h:W tb af.body {env:=aj 0 (args.map aQ),heap:=[],next:=0,marks:=[0]} (ic af.results λv s=>∃n:Int×Int,bE s.heap dep v=some (.tuple [.int .i64 n.1,.int .i64 n.2])))(a:af.rs=false:=by rfl):∃n m:Int,PS tb f args (.tuple [.int .i64 n,.int .i64 m]):=by
 obtain⟨⟨n,m⟩,h⟩:=nq (T:=tb) b c h (hrs:=a);exact⟨n,m,h⟩
def H4(a c:Int):∃b,PS tb 256 [.int .i64 a,.int .i64 c] (.bool b)/\True:=by
 refine tM (af:=Su) rfl rfl ?_;unfold Su;dsimp only[List.map,aQ,aj];refine hN trivial (k3 ?_ ?_ ?_)<;>(repeat with_reducible intro d)
 all_goals exact⟨⟨_,trivial⟩,rfl⟩
def Xa(b:Int):∃n m:Int,PS tb 257 [.int .i64 b] (.tuple [.int .i64 n,.int .i64 m]):=by
 refine Rt (af:=SE) rfl rfl ?_;unfold SE;dsimp only[List.map,aQ,aj];repeat'(first|(simp(disch:=omega) only[go_sem,seval,reduceCtorEq])|with_reducible exact Ev.mk|((first|apply b5|apply bO)<;>intro a c<;>(simp(disch:=omega) only[go_sem,seval,reduceCtorEq,a])<;>clear a))
 all_goals exact⟨(_,_),rfl⟩
def HC(l:List Int)(z:Int):kf l++[[.int .i64 z]]=kf (l++[z]):=by simp[kf]
def KO(n:Nat)(a:List Int)(b:a.length=n)(m:n<=1048576)(f g:Int):
  W tb (.loop C3) ⟨[(13,.p (.int .i64 f)),(14,.p (.int .i64 g)),(89,.ref 1 n 0 n),(90,.p (.int .i64 n)),(91,.p (.int .i64 0))],[(1,.row false 1 (kf a))],2,[0]⟩
   (BK 3 (SK tb (.seq (.aT false [(.o 99 (.move (.t 14)),[14]),(.o 4 (.move (.t 99)),[99]),(.o 5 (.move (.i 0)),[])]) .ret) (ic [gm.tmp 4,gm.tmp 5] λv s=>∃n:Int×Int,bE s.heap 5 v=some (.tuple [.int .i64 n.1,.int .i64 n.2])))):=by
 have d:(kf a).length=n:=by rw[kF];exact b
 refine bU (λj h=>∃i:Nat,i+j=n/\h=⟨[(13,.p (.int .i64 f)),(14,.p (.int .i64 g)),(89,.ref 1 n 0 n),(90,.p (.int .i64 n)),(91,.p (.int .i64 i))],[(1,.row false 1 (kf a))],2,[0]⟩) ?_ n _ ⟨0,ae,rfl⟩;rintro j h ⟨i,o,rfl⟩;refine bq C3.eq_1 ?_;rcases cK i n with c|c
 .have e:(i:Int)<n:=ae;have k:(0:Int)<=i:=ae;have l:=JT a i ae;refine hN (eY e k l d) (k2 ?_ ?_)<;>(repeat with_reducible intro p)
  all_goals first
   |exact⟨(_,_),rfl⟩
   |exact LI.next (m':=j-1) ae ⟨i+1,ae,rfl⟩
 .have e:¬(i:Int)<n:=ae;refine gN e (k1 ?_);exact⟨(_,_),rfl⟩
def IK:∀(k:Nat) (e:aF),e.sz<=k->k<=1048576->Ar e->∀(n:Nat) (g:ES),∃P Q:Int,PS tb 248 [.agg [.int .i64 e.op,.int .i64 e.n,.str e.s,.slice e.f (aJ e.xs)],.map n (mZ g)] (.tuple [.int .i64 P,.int .i64 Q])
 |0,e,y,_,_=>by cases e;simp[aF.sz]at y
 |k+1,e,y,S,A=>by
  intro n g;have C:e.xs.length<=1048576:=by have:=bI e.xs;rw[aF.fj]at y;omega
  have B:cI e.xs<=k:=by rw[aF.fj]at y;omega
  obtain⟨⟨q,_⟩,s⟩:=(M3 e).1 A;obtain⟨D,E,p⟩:=Xa e.op;refine Rt (af:=RD) rfl rfl ?_;unfold RD;dsimp only[List.map,aQ,aj];by_cases u:e.op=3
  .cases F:g e.s with
   |none=>
    have d:mZ g e.s=none:=by simp[mZ,F]
    repeat'(first|(simp(disch:=omega) only[go_sem,seval,reduceCtorEq,aZ u,d])|with_reducible exact Ev.mk|((first|apply b5|apply bO)<;>intro a G<;>(simp(disch:=omega) only[go_sem,seval,reduceCtorEq,aZ u,d,a])<;>clear a))
    all_goals exact⟨(_,_),rfl⟩
   |some z=>
    have d:mZ g e.s=some (.one (.int .i64 z)):=by simp[mZ,F]
    repeat'(first|(simp(disch:=omega) only[go_sem,seval,reduceCtorEq,aZ u,d])|with_reducible exact Ev.mk|((first|apply b5|apply bO)<;>intro a G<;>(simp(disch:=omega) only[go_sem,seval,reduceCtorEq,aZ u,d,a])<;>clear a))
    all_goals exact⟨(_,_),rfl⟩
  refine gN (bf u @aD) (k1 ?_);refine bU (λj H=>∃(i:Nat) (o:List Int),i+j=e.xs.length/\o.length=i/\H=⟨[(1,.p (.map n (mZ g))),(2,.ptr 0 0),(8,.ref 1 i 0 i),(39,.p (.slice e.f (aJ e.xs))),(40,.p (.int .i64 e.xs.length)),(41,.p (.int .i64 i))],[(1,.row false 1 (kf o)),(0,.var false [.p (.int .i64 e.op),.p (.int .i64 e.n),.p (.str e.s),.p (.slice e.f (aJ e.xs))])],2,[0]⟩) ?_ e.xs.length _ ⟨0,[],ae,rfl,rfl⟩;rintro j H ⟨i,o,T,f,rfl⟩;refine bq Kj.eq_1 ?_;rcases cK i e.xs.length with c|c
  .have d:(i:Int)<e.xs.length:=ae;have v:(0:Int)<=i:=ae;have w:=jh e.xs i c;rw[aF.pM]at w;obtain⟨t,r,I⟩:=IK k e.xs[i] (dL (ja (List.getElem_mem c)) B) ae (wS.1 s _ (List.getElem_mem c)) n g;have J:(i+1)*8<=ak:=by simp only[ak];omega
   have K:i+1<=ak:=by simp only[ak];omega
   have L:bV 1 [[PV.int .i64 t]]=true:=rfl;have h:(kf o).length=i:=by rw[kF];exact f
   by_cases M:r=0
   .refine gP (pL d v w @aD (aZ M) J K L h @HC) I (k1 ?_);all_goals first
     |contradiction
     |exact LI.next (m':=j-1) ae ⟨i+1,o++[t],ae,by simp[f],rfl⟩
   .refine gP (ow d v w @aD M J K L h) I (k1 ?_);all_goals first
     |contradiction
     |exact⟨(_,_),rfl⟩
  .have d:¬(i:Int)<e.xs.length:=ae;have R:i=e.xs.length:=ae;have h:(kf o).length=i:=by rw[kF];exact f
   by_cases l:10<=e.op
   .by_cases m:e.op<=15
    .have v:=Jn (.inl ⟨l,m⟩:10<=e.op/\e.op<=15\/22<=e.op/\e.op<=24);rw[aq m]at v;rw[v]at q;obtain rfl:i=2:=ae;rcases o with _|⟨t0,_|⟨N,_|⟨U,o⟩⟩⟩<;>simp at f
     obtain⟨b,x,_⟩:=H4 e.op t0;have w:kf [t0,N]=[[.int .i64 t0],[.int .i64 N]]:=rfl;have O:¬(2:Int)<e.xs.length:=ae;rw[w];repeat'(first|exact x|(simp(disch:=omega) only[go_sem,seval,reduceCtorEq,d,O,l,m])|with_reducible exact Ev.mk|apply gb|((first|apply b5|apply bO)<;>intro a G<;>(simp(disch:=omega) only[go_sem,seval,reduceCtorEq,d,O,l,m,a])<;>clear a))
     all_goals exact⟨(_,_),rfl⟩
    .have V:¬(10<=e.op/\e.op<=15):=ae;refine gP (dM d l m h @kF) p (k1 ?_);exact KO i o f ae D E
   .refine gP (eY d l h @kF) p (k1 ?_);exact KO i o f ae D E
end
section
open Go Go.Dv
def BE{T:dk}{f:FuncId}{af:au}(l:T.A f=some af){args:List DV}{H:Heap}{a:Nat}{c:Type}(r:c->DV)(d:c->Heap)(m:args.length=af.nparams)
  (h:W T af.body {env:=aj 0 args,heap:=H,next:=a,marks:=[a]} (ic af.results λv s=>∃i,v=r i/\below a dep v=true/\Left a (d i) s))(b:af.rs=true:=by rfl):∃i,BS T f args H a (r i) (d i) a:=by
 obtain⟨e,z,o,g⟩:=oq _ _ _ h;unfold ic at g;obtain⟨q,v,t,i,rfl,u,j,w,x⟩:=g;rw[<-mq]at j;obtain⟨n,y⟩:=o.at;refine⟨i,n+1,?_⟩;rw[dG];simp only[l];have k:=j5 (aI.le.refl (jE T.A T.X n)) (iQ n) _ _ _ (y n (Nat.le_refl _));unfold jH pz;rw[mG k,b];simp only;rw[aq m,k];rw[<-x];rcases q with rfl|rfl<;>simp[t,u,j,w]
abbrev P5:=ByteArray->Option Bool
def ts(g:P5):SM:=λk=>(g k).map λz=>.one (.bool z)
def UD(g:P5)(k:ByteArray)(v:Bool):P5:=λj=>if j=k then some v else g j
def ed(g:P5)(k:ByteArray)(z:Bool):fF (ts g) k (some (.one (.bool z)))=ts (UD g k z):=by
 funext j;simp only[fF,ts,UD];split<;>rfl
structure Sg where
 nv:Nat
 v:ES
 nl:Nat
 l:P5
 na:Nat
 a:ES
def Hc(p:List DV)(s:Sg):Heap:=[(4,.var false [.ptr 1 0,.ptr 2 0,.ptr 3 0]),(3,.map false (.strs s.na (mZ s.a))),(2,.map false (.strs s.nl (ts s.l))),(1,.map false (.strs s.nv (mZ s.v))),(0,.var false p)]
structure CG(p:List DV)(L:Heap)(nx:Nat):Prop where
 n0:∀s,ah (L++Hc p s) nx=none
 n1:∀s,ah (L++Hc p s) (nx+1)=none
 b0:∀s,az nx (L++Hc p s)=L++Hc p s
 l0:∀s,cL nx (L++Hc p s)=true
 b1:∀s,az (nx+1) (L++Hc p s)=L++Hc p s
 l1:∀s,cL (nx+1) (L++Hc p s)=true
 g4:∀s,ah (L++Hc p s) 4=some (.var false [.ptr 1 0,.ptr 2 0,.ptr 3 0])
 g3:∀s,ah (L++Hc p s) 3=some (.map false (.strs s.na (mZ s.a)))
 g2:∀s,ah (L++Hc p s) 2=some (.map false (.strs s.nl (ts s.l)))
 g1:∀s,ah (L++Hc p s) 1=some (.map false (.strs s.nv (mZ s.v)))
 s1:∀s n g,aH (L++Hc p s) 1 (.map false (.strs n (mZ g)))=L++Hc p {s with nv:=n,v:=g}
 s2:∀s n g,aH (L++Hc p s) 2 (.map false (.strs n (ts g)))=L++Hc p {s with nl:=n,l:=g}
 s3:∀s n g,aH (L++Hc p s) 3 (.map false (.strs n (mZ g)))=L++Hc p {s with na:=n,a:=g}
 w1:(nx==1)=false
 w2:(nx==2)=false
 w3:(nx==3)=false
 w4:(nx==4)=false
 lt:4<nx
def sq.cg{p:List DV}(hp:p.all (below 1 dep)=true){L:Heap}{a:Nat}(h:sq 5 L a):CG p L a:=by
 have r:=h.ge;have l:∀s c,a<=c->az c (L++Hc p s)=L++Hc p s:=λs c b=>by
  rw[jl,h.ba c b];have i:4<c:=ae;have d:3<c:=ae;have e:2<c:=ae;have f:1<c:=ae;have j:0<c:=ae;simp[Hc,az,i,d,e,f,j]
 have m:∀s c,a<=c->cL c (L++Hc p s)=true:=λs c b=>by
  rw[nT,h.al c b];have d:3<c:=ae;have e:2<c:=ae;have f:1<c:=ae;have k:∀x∈p,below c dep x=true:=λx q=>fu ae dep x (List.all_eq_true.1 hp x q)
  simp only[Hc,cL,ca.below,List.all_cons,List.all_nil,below,dep,d,e,f,decide_true,Bool.and_true,Bool.true_and];exact List.all_eq_true.2 k
 have o:∀s c,a<=c->ah (L++Hc p s) c=none:=λs c b=>by
  rw[cW (h.no c (.inl b))];have i:¬4=c:=ae;have d:¬3=c:=ae;have e:¬2=c:=ae;have f:¬1=c:=ae;have j:¬0=c:=ae;simp[Hc,ah,i,d,e,f,j]
 exact⟨λs=>o s _ (Nat.le_refl _),λs=>o s _ (iQ _),λs=>l s _ (Nat.le_refl _),λs=>m s _ (Nat.le_refl _),λs=>l s _ (iQ _),λs=>m s _ (iQ _),
  λs=>by rw[cW (h.no 4 (.inr ae))];rfl,λs=>by rw[cW (h.no 3 (.inr ae))];rfl,λs=>by rw[cW (h.no 2 (.inr ae))];rfl,λs=>by rw[cW (h.no 1 (.inr ae))];rfl,
  λs n g=>by rw[fU (h.no 1 (.inr ae))];rfl,λs n g=>by rw[fU (h.no 2 (.inr ae))];rfl,λs n g=>by rw[fU (h.no 3 (.inr ae))];rfl,
  er.2 ae,er.2 ae,er.2 ae,er.2 ae,ae⟩
section
variable{p:List DV}(hp:p.all (below 1 dep)=true)
def Fq(s:Sg)(k:ByteArray)(z:Int):Sg:={s with nv:=if(mZ s.v k).isSome then s.nv else s.nv+1,v:=Fv s.v k (some z),na:=if(mZ s.a k).isSome then s.na else s.na+1,a:=Fv s.a k (some z)}
include hp in
theorem ue{L:Heap}{a:Nat}(h:sq 5 L a)(s:Sg)(k:ByteArray)(z:Int):BS tb 164 [.ptr 4 0,.p (.str k),.p (.int .i64 z)] (L++Hc p s) a (.tuple []) (L++Hc p (Fq s k z)) a:=by
 have g:=h.cg hp;refine cH (af:=a164) rfl rfl ?_;unfold a164;dsimp only[aj];refine gN (q9 g.n0 g.b0 g.l0 g.g1 g.g2 g.g3 g.g4 g.s1 g.s2 g.s3 g.lt @eM) (k1 ?_);all_goals rfl
noncomputable def V7 (e:aF) (n:Nat) (g:ES):Int×Int:=Classical.epsilon λr:Int×Int=>PS tb 248 [.agg [.int .i64 e.op,.int .i64 e.n,.str e.s,.slice e.f (aJ e.xs)],.map n (mZ g)] (.tuple [.int .i64 r.1,.int .i64 r.2])
def NF(e:aF)(c:e.sz<=1048576)(h:Ar e)(n:Nat)(g:ES):PS tb 248 [.agg [.int .i64 e.op,.int .i64 e.n,.str e.s,.slice e.f (aJ e.xs)],.map n (mZ g)] (.tuple [.int .i64 (V7 e n g).1,.int .i64 (V7 e n g).2]):=
 j9 (p:=λr:Int×Int=>PS tb 248 [.agg [.int .i64 e.op,.int .i64 e.n,.str e.s,.slice e.f (aJ e.xs)],.map n (mZ g)] (.tuple [.int .i64 r.1,.int .i64 r.2])) (by
  obtain⟨a,b,h⟩:=IK e.sz e (Nat.le_refl _) c h n g;exact⟨(a,b),h⟩)
include hp in
theorem GV{L:Heap}{l:Nat}(h:sq 5 L l)(s:Sg)(c:Int)(name:ByteArray)(max:Int)(a b:aF)(f:Bool)(i:List aX)(y:Bool)(m:List aX)(n:a.sz<=1048576)(o:b.sz<=1048576)(q:nd c max a b):
  ∃r:Int×Int×Int,BS tb 231 [.ptr 4 0,.agg (bA c name max a b f i y m)] (L++Hc p s) l (.tuple [.p (.int .i64 r.1),.p (.int .i64 r.2.1),.p (.int .i64 r.2.2)]) (L++Hc p s) l:=by
 have g:=h.cg hp;obtain⟨_,_,t,u,_⟩:=q;refine BE (af:=UI) rfl (λr:Int×Int×Int=>.tuple [.p (.int .i64 r.1),.p (.int .i64 r.2.1),.p (.int .i64 r.2.2)]) (λ_=>L++Hc p s) rfl ?_;unfold UI;dsimp only[aj,bA];by_cases e:c=8
 .refine gN (Jj g.n0 g.b0 g.l0 g.b1 g.l1 g.g1 g.g2 g.g3 g.g4 g.w1 g.w2 g.w3 g.w4 (aZ e)) (k1 ?_);exact⟨(_,_,_),rfl⟩
 .have j:=NF a n (t e) s.nv s.v;generalize V7 a s.nv s.v=z at j;by_cases k:z.2=0
  .by_cases d:c=3\/c=6
   .have v:=NF b o (u d) s.nv s.v;generalize V7 b s.nv s.v=A at v;rcases d with d|B
    .refine gP (IJ g.n0 g.b0 g.l0 g.b1 g.l1 g.g1 g.g2 g.g3 g.g4 g.w1 g.w2 g.w3 g.w4 e (aZ k) (aZ d)) (bf j v) (k1 ?_);all_goals first
      |contradiction
      |exact⟨(_,_,_),rfl⟩
    .have d:¬c=3:=ae;refine gP (NV g.n0 g.b0 g.l0 g.b1 g.l1 g.g1 g.g2 g.g3 g.g4 g.w1 g.w2 g.w3 g.w4 e d (aZ k) (aZ B)) (bf j v) (k1 ?_);all_goals first
      |contradiction
      |exact⟨(_,_,_),rfl⟩
   .have w:¬c=3:=λh=>d (.inl h)
    have x:¬c=6:=λh=>d (.inr h)
    refine gP (NV g.n0 g.b0 g.l0 g.b1 g.l1 g.g1 g.g2 g.g3 g.g4 g.w1 g.w2 g.w3 g.w4 e (aZ k) w x) j (k1 ?_);all_goals first
     |contradiction
     |exact⟨(_,_,_),rfl⟩
  .refine gP (Dw g.n0 g.b0 g.l0 g.b1 g.l1 g.g1 g.g2 g.g3 g.g4 g.w1 g.w2 g.w3 g.w4 e k) j (k1 ?_);all_goals first
    |contradiction
    |exact⟨(_,_,_),rfl⟩
end
end
end Go.Dv.Tryz
