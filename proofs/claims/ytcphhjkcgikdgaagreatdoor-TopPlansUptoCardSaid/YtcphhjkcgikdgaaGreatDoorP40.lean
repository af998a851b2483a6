/- Lemmas for the law of this claim. -/
import Derived.Test.YtcphhjkcgikdgaaGreatDoorP39
import Derived.Test.YtcphhjkcgikdgaaGreatDoorP35
import Derived.Test.YtcphhjkcgikdgaaGreatDoorP36
import Derived.Test.YtcphhjkcgikdgaaGreatDoorP29
set_option linter.all false
set_option maxRecDepth 100000
set_option maxHeartbeats 8000000
namespace Go.Dv.Tryz
section
open Go Go.Dv
def j8(l:List AV):List (List PV):=l.map λa=>[.bool a.isSome,.int .i64 (a.getD V0).k,.int .i64 (a.getD V0).n,.str (a.getD V0).s]
def o9(l:List AV):(j8 l).length=l.length:=by simp[j8]
def Ms(l:List AV)(i:Nat)(h:i<l.length):(j8 l)[i]?=some [.bool l[i].isSome,.int .i64 (l[i].getD V0).k,.int .i64 (l[i].getD V0).n,.str (l[i].getD V0).s]:=by simp[j8,h]
def Ml:List ByteArray:=[nA,nB]
def mz(n:Nat):List aF:=[vA,vB].take n
def nj(l:List AV)(n:Nat):List Pr:=(List.range n).map λi=>⟨Ml.getD i E,(l.getD i none).getD V0⟩
def yK(l:List AV)(n:Nat):(nj l n).length=n:=by simp[nj]
def N5(l:List AV)(d:∀a∈l,cQ (a.getD V0)):∀p∈nj l l.length,cQ p.v:=λp b=>by
 simp only[nj,List.mem_map,List.mem_range]at b;obtain⟨i,c,rfl⟩:=b;simp only[List.getD_eq_getElem?_getD,List.getElem?_eq_getElem c,il];exact d _ (List.getElem_mem c)
def V9{b:Int}(a:df b){n:Nat}(c:n<=2):(sj b (mz n)).ok:=by
 have z:df 0:=df.z;have t:df 3:=df.c3;rcases n with _|_|_|n
 .simp[sj,aF.ok,mz,fQ,a,z,iq];decide
 .simp[sj,aF.ok,mz,fQ,a,z,t,iq];decide
 .simp[sj,aF.ok,mz,fQ,a,z,t,iq];decide
 .omega
def Vi(a:Int){n:Nat}(b:n<=2):(sj a (mz n)).sz<=1048576:=by
 rcases n with _|_|_|n
 .simp[sj,aF.sz,mz,cI]
 .simp[sj,aF.sz,mz,cI]
 .simp[sj,aF.sz,mz,cI]
 .omega
def Rn(l:List AV)(c:l.length<=2):∀i (h:i<(nj l l.length).length),(mF ((nj l l.length).take i) jI).vars (nj l l.length)[i].key=none:=λi h=>by
 have e:¬nB=nA:=by decide
 rw[yK]at h;rcases l with _|⟨a,_|⟨b,_|⟨d,l⟩⟩⟩
 .simp at h
 .obtain rfl:i=0:=by simpa using h
  rfl
 .rcases i with _|_|i
  .rfl
  .simp[nj,List.range_succ,mF,gk,l8,Ml]
  .simp at h;omega
 .exfalso;simp only[List.length_cons]at c;omega
def Nf(e:Int)(l:List AV)(k:l.length<=2)(A:VR e (mz l.length))(B:df e)(C:∀a∈l,cQ (a.getD V0))(f:Bool)(o:∀v m,cG kE.cz (sj e (mz l.length)) (mF (nj l l.length) jI)=.ok v m->jC m):
  ∃q:bX×Ef,PS tb 184 [.int .i64 e,.slice f (j8 l)] (.tuple [.agg [.bool true,.int .i64 q.1.k,.int .i64 q.1.n,.str q.1.s],.bool (decide (q.2.st=1))])/\J8 (sj e (mz l.length)) (nj l l.length) q:=by
 have w:W tb Iq.body {env:=aj 0 ([PV.int .i64 e,.slice f (j8 l)].map aQ),heap:=[],next:=0,marks:=[0]} (ic Iq.results λv s=>∃n:{q:bX×Ef//J8 (sj e (mz l.length)) (nj l l.length) q},bE s.heap dep v=some (.tuple [.agg [.bool true,.int .i64 n.1.1.k,.int .i64 n.1.1.n,.str n.1.1.s],.bool (decide (n.1.2.st=1))])):=by
  unfold Iq;dsimp only[List.map,aQ,aj];refine gN (bf @o9 bC) (k1 ?_);refine bU (λj x=>∃i:Nat,i+j=l.length/\x=⟨[(4,.ptr 0 0),(6,.p (.slice true [[.str nA],[.str nB]])),(7,.ptr 1 0),(8,.ref 3 i 0 i),(16,.p (.slice f (j8 l))),(17,.p (.int .i64 l.length)),(18,.p (.int .i64 i))],[(3,.row false 4 (bm (nj l i))),(2,.row false 4 (aJ (mz i))),(1,.var false [.p (.int .i64 e),.p (.int .i64 0),.p (.str E),.ref 2 i 0 i]),(0,.var false [.p (.bool false),.p (.int .i64 0),.p (.int .i64 0),.p (.str E)])],4,[0]⟩) ?_ l.length _ ⟨0,ae,by simp[nj,mz,bm,aJ]⟩;rintro j x ⟨i,D,rfl⟩;refine bq Iu.eq_1 ?_;rcases cK i l.length with c|c
  .have p:(i:Int)<l.length:=ae;have F:(0:Int)<=i:=ae;have r:=Ms l i c;have G:([[.str nA],[.str nB]]:List (List PV))[i]?=some [.str (Ml.getD i E)]:=by
    rcases i with _|_|i
    .rfl
    .rfl
    .omega
   have H:aJ (mz i)++[[.int .i64 3,.int .i64 0,.str (Ml.getD i E),.slice true []]]=aJ (mz (i+1)):=by
    rcases i with _|_|i
    .simp[mz,Ml,aJ,aF.cs]
    .simp[mz,Ml,aJ,aF.cs]
    .omega
   have y:bm (nj l i)++[[.str (Ml.getD i E),.int .i64 (l[i].getD V0).k,.int .i64 (l[i].getD V0).n,.str (l[i].getD V0).s]]=bm (nj l (i+1)):=by
    simp[nj,bm,uS,List.range_succ,c]
   generalize l[i].getD V0=z at r y;generalize l[i].isSome=P at r;have t:(aJ (mz i)).length=i:=by rw[aD];simp[mz];omega
   have u:(bm (nj l i)).length=i:=by rw[bK,yK]
   have I:(i+1)*56<=ak:=by simp only[ak];omega
   have J:(i+1)*48<=ak:=by simp only[ak];omega
   have K:i+1<=ak:=by simp only[ak];omega
   have L:(i:Int)<2:=ae;have a4:∀a b c d:PV,bV 4 [[a,b,c,d]]=true:=λ_ _ _ _=>rfl
   refine gN (Dw p F r G H y t u L I J K a4 @o9 bC) (k1 ?_);exact LI.next (m':=j-1) ae ⟨i+1,ae,rfl⟩
  .have p:¬(i:Int)<l.length:=ae;obtain rfl:i=l.length:=ae;obtain⟨q,g,M⟩:=PZ (sj e (mz l.length)) (nj l l.length) (by rw[yK];omega) (Rn l k) (N5 l C) (V9 B k) (Vi e k) o (Nk A);simp only[sj,aF.op,aF.n,aF.s,aF.f,aF.xs,gB,od]at g;have t:(aJ (mz l.length)).length=l.length:=by rw[aD];simp[mz];omega
   have u:(bm (nj l l.length)).length=l.length:=by rw[bK,yK]
   have N:(aJ (mz l.length)).take l.length=aJ (mz l.length):=List.take_of_length_le ae;have O:(bm (nj l l.length)).take l.length=bm (nj l l.length):=List.take_of_length_le ae;refine gP (dM p t u N O) g (k1 ?_);exact⟨⟨q,M⟩,rfl⟩
 obtain⟨⟨q,g⟩,h⟩:=nq (T:=tb) (f:=184) (af:=Iq) rfl rfl w;exact⟨q,h,g⟩
def QK(e:Int)(c:List bX)(f:¬e=1)(g:¬e=2)(h:¬e=3)(i:c.length<=2):cG kE.cz (sj e (mz c.length)) (mF (nj (c.map some) c.length) jI)=mD kE.cz e c (mF (nj (c.map some) c.length) jI):=by
 rcases c with _|⟨a,_|⟨b,_|⟨d,l⟩⟩⟩
 .simp[sj,mz,cG,dX,f,g,h,Rs.bind]
 .exact Vv e a f g h
 .exact VB e a b f g h
 .exfalso;simp only[List.length_cons]at i;omega
def Ur(c:List bX)(e:c.length<=2):(nj (c.map some) c.length).all (λp=>jF p.v)=c.all jF:=by
 rcases c with _|⟨a,_|⟨b,_|⟨d,l⟩⟩⟩
 .rfl
 .simp[nj]
 .simp[nj,List.range_succ]
 .exfalso;simp only[List.length_cons]at e;omega
def MT(c:Int)(b:List bX)(f:Bool)(y:df c)(k:(b.length:Int)=D2 c)(s:¬c=1)(t:¬c=2)(u:¬c=3)(z:¬qa c)(A:∀v∈b,cQ v):
  ∃v:bX,PS tb 184 [.int .i64 c,.slice f (j8 (b.map some))] (.tuple [.agg [.bool true,.int .i64 v.k,.int .i64 v.n,.str v.s],.bool (ir c b).isSome])/\∀w,ir c b=some w->w=v:=by
 have o:b.length<=2:=by
  have:D2 c<=2:=by unfold D2;(repeat' split)<;>omega
  omega
 have B:b.length=1->CA c:=λe=>by
  rw[e]at k;unfold D2 at k
  (repeat' split at k)<;>first|omega|(unfold CA qa;omega)
 have x:=QK c b s t u o;have d:(b.map some).length=b.length:=List.length_map ..;have i:∀a∈b.map some,cQ (Option.getD a V0):=λa l=>by
  obtain⟨v,p,rfl⟩:=List.mem_map.1 l;exact A v p
 have r:jC (mF (nj (b.map some) b.length) jI):=Us _ _ B4 (by have:=N5 (b.map some) i;rwa [d]at this)
 have C:VR c (mz b.length):=⟨by
  have D:b.length=0\/b.length=1\/b.length=2:=ae;rcases D with h|h|h<;>rw[h]<;>simp[mz],by rw[<-k];simp[mz];omega,s,t,u⟩
 have j:=HA z B;obtain⟨q,E,hP⟩:=Nf c (b.map some) (by rw[d];exact o) (by rw[d];exact C) y i f (by
  rw[d,x];intro v m e;rcases j with⟨w,h⟩|⟨F,h⟩
  .rw[h]at e;cases e;exact r
  .rw[h]at e;cases e)
 rw[d]at hP;unfold J8 at hP;rw[Ur b o,x]at hP;have l:ir c b=if q.2.st=1 then some q.1 else none:=by
  unfold ir;by_cases g:b.all jF=true
  .rw[aq g]at hP⊢;rcases j with⟨w,h⟩|⟨F,h⟩
   .rw[h]at hP⊢;obtain⟨rfl,e⟩:=hP;rw[aq e];rfl
   .rw[h]at hP⊢;simp only at hP;rw[an (by rw[hP];decide)];rfl
  .rw[an g]at hP⊢;rw[an (by rw[hP];decide)]
 refine⟨q.1,?_,λw n=>?_⟩
 .have e:(ir c b).isSome=decide (q.2.st=1):=by rw[l];split<;>simp[*]
  rw[e];exact E
 .rw[l]at n;split at n
  .cases n;rfl
  .cases n
end
section
open Go Go.Dv
def sQ(a:AV):List DV:=[.p (.bool a.isSome),.p (.int .i64 (a.getD V0).k),.p (.int .i64 (a.getD V0).n),.p (.str (a.getD V0).s)]
def VK(V:VX):Prop:=∀k v,V.f k=some (some v)->cQ v
def zI(a:List AV)(r:Option (List AV)×XS):Option (List AV)×XS:=(r.1.map (a++·),r.2)
def K0(l:List AV)(a:AV):j8 l++[[.bool a.isSome,.int .i64 (a.getD V0).k,.int .i64 (a.getD V0).n,.str (a.getD V0).s]]=j8 (l++[a]):=by simp[j8]
def xM(a:Int)(r:Option (List AV)×XS):Option AV×XS:=match r with
 |(none,x)=>(none,x)
 |(some l,x)=>
   if a=22\/a=23\/a=24 then(if(kx (l.headD none) x).1 then some none else none,(kx (l.headD none) x).2)
   else if l.all Option.isSome then((ir a (l.map λv=>v.getD V0)).map some,x)
   else(some none,x)
def Ii{a n:Int}{s:ByteArray}{f:Bool}{b:List aF}{V:VX}{x:XS}(c:¬a=1)(d:¬a=2)(e:¬a=3):dH (.mk a n s f b) V x=xM a (cO b V x):=by
 rw[dH,an c,an d,an e];rfl
def Wh(r:Option AV)(z:AV):Prop:=(∀a,r=some a->z=a)/\∀v,r=some (some v)->cQ v
def Bc(a:List AV)(z:AV)(r:Option (List AV)×XS):zI (a++[z]) r=zI a (match r with|(none,x)=>(none,x)|(some l,x)=>(some (z::l),x)):=by
 obtain⟨_|l,x⟩:=r<;>simp[zI]
def all_some:∀{l:List AV},l.all Option.isSome=true->(l.map λv=>v.getD V0).map some=l
 |[],_=>rfl
 |none::l,h=>by simp at h
 |some v::l,h=>by simp only[List.all_cons,aO]at h;simp only[List.map_cons,il];rw[all_some h.2]
def E5{a:Int}{l:List bX}(b:¬qa a)(h:∀v∈l,cQ v){v:bX}(e:ir a l=some v):cQ v:=by
 unfold ir at e;split at e
 .have:=Ub (c:=Yf) (λ_=>DF) (op:=a) h (m:=U7) List.Pairwise.nil (λk v h=>by cases h);generalize mD Yf a l U7=r at e this;cases r with
  |ok w m=>cases e;exact this.1
  |no _ _ _ _=>cases e
 .cases e
def XM(p:Pc)(e:aF):Prop:=∀(L:Heap) (b:Nat) (x:XS) (V:VX),LX L b->wq x->VK V->∃z:AV,BS tb 155 [.ptr 4 0,.agg [.p (.int .i64 e.op),.p (.int .i64 e.n),.p (.str e.s),.p (.slice e.f (aJ e.xs))],.p (.map V.n (dJ V.f))] (L++Hx p x) b (.tuple [.agg (sQ z),.p (.bool (dH e V x).1.isSome)]) (L++Hx p (dH e V x).2) b/\(∀a,(dH e V x).1=some a->z=a)/\∀v,(dH e V x).1=some (some v)->cQ v
def Ye(p:Pc):∀(k:Nat) (e:aF),e.sz<=k->k<=1048576->e.ok->Ar e->XM p e
 |0,e,hz,_,_,_=>by cases e;simp[aF.sz]at hz
 |k+1,.mk t n s f m,hz,O,he,xv=>by
  intro L nx x V h hx hV;obtain⟨y,rfl⟩:=h.ex;have g:=h.xf (p:=p);simp only[aF.ok]at he;simp only[aF.op,aF.n,aF.s,aF.f,aF.xs];by_cases o1:t=1
  .simp only[dH,o1,bZ];refine⟨some (dt n),?_,λa S=>by cases S;rfl,λv J=>by cases J;exact jA he.2.1⟩;refine cH (af:=xD) rfl rfl ?_;unfold xD;dsimp only[aj,sQ,dt,Option.isSome,Option.getD];exact gN (bf g.q bC) k0
  by_cases o2:t=2
  .simp only[dH,o2,bZ,show¬(2:Int)=1 by decide,cy];refine⟨some ⟨2,0,s⟩,?_,λa S=>by cases S;rfl,λv J=>by cases J;exact⟨df.c2,df.z,he.2.2.1⟩⟩;refine cH (af:=xD) rfl rfl ?_;unfold xD;dsimp only[aj,sQ,Option.isSome,Option.getD];exact gN (bf g.q bC) k0
  by_cases o3:t=3
  .simp only[dH,o3,bZ,show¬(3:Int)=1 by decide,show¬(3:Int)=2 by decide,cy];refine⟨V.get s,?_,λa S=>by cases S;rfl,λv J=>?_⟩
   .refine cH (af:=xD) rfl rfl ?_;unfold xD;dsimp only[aj,sQ];cases X:V.f s with
    |none=>
     have o:dJ V.f s=none:=by simp[dJ,X]
     have h2:V.get s=none:=by simp[VX.get,X]
     rw[h2];dsimp only[Option.isSome,Option.getD];exact gN (c9 g.q o bC) k0
    |some a=>
     have o:dJ V.f s=some (tz a):=by simp[dJ,X]
     have h2:V.get s=a:=by simp[VX.get,X]
     rw[h2];simp only[tz]at o;generalize a.isSome=ab at o⊢;generalize a.getD V0=av at o⊢;exact gN (c9 g.q o bC) k0
   .simp only[VX.get,aw]at J;cases X:V.f s with
    |none=>rw[X]at J;cases J
    |some a=>rw[X]at J;simp only[il]at J;subst J;exact hV s v X
  have y2:m.length<=1048576:=by have:=bI m;simp only[aF.sz]at hz;omega
  have ya:cI m<=k:=by simp only[aF.sz]at hz;omega
  obtain⟨⟨Y,_⟩,Z⟩:=(M3 _).1 xv;simp only[aF.xs,aF.op]at Y Z;rw[Ii o1 o2 o3];have hg:∃z:{z:AV//Wh (xM t (cO m V x)).1 z},BS tb 155 [.ptr 4 0,.agg [.p (.int .i64 t),.p (.int .i64 n),.p (.str s),.p (.slice f (aJ m))],.p (.map V.n (dJ V.f))] (L++Hx p x) (y+5) (.tuple [.agg (sQ z.1),.p (.bool (xM t (cO m V x)).1.isSome)]) (L++Hx p (xM t (cO m V x)).2) (y+5):=?hg
  .obtain⟨z,hB⟩:=hg;exact⟨z.1,hB,z.2.1,z.2.2⟩
  refine BE (T:=tb) (f:=155) (af:=xD) rfl (λz:{z:AV//Wh (xM t (cO m V x)).1 z}=>.tuple [.agg (sQ z.1),.p (.bool (xM t (cO m V x)).1.isSome)]) (λ_=>L++Hx p (xM t (cO m V x)).2) rfl ?_;unfold xD;dsimp only[aj];refine gN (pS g.q o1 o2 o3 @aD bC) (k1 ?_);have q5:=h.cons (k:=.var false [.p (.int .i64 t),.p (.int .i64 n),.p (.str s),.p (.slice f (aJ m))]);have q6:=q5.cons (k:=.var false [.p (.bool false),.p (.int .i64 0),.p (.int .i64 0),.p (.str ⟨#[]⟩)]);refine bU (λj st=>∃(i:Nat) (q:List AV) (I:XS) (kn:Bool),i+j=m.length/\q.length=i/\cO m V x=zI q (cO (m.drop i) V I)/\wq I/\(∀v,some v∈q->cQ v)/\q.all Option.isSome=kn/\st=⟨[(0,.ptr 4 0),(2,.p (.map V.n (dJ V.f))),(4,.ptr (y+5) 0),(6,.ptr (y+6) 0),(8,.ref (y+7) i 0 i),(9,.p (.bool kn)),(35,.p (.slice f (aJ m))),(36,.p (.int .i64 m.length)),(37,.p (.int .i64 i))],(y+7,.row false 4 (j8 q))::(y+6,.var false [.p (.bool false),.p (.int .i64 0),.p (.int .i64 0),.p (.str ⟨#[]⟩)])::(y+5,.var false [.p (.int .i64 t),.p (.int .i64 n),.p (.str s),.p (.slice f (aJ m))])::(L++Hx p I),y+8,[y+8,y+5]⟩) ?_ m.length _ ⟨0,[],x,true,ae,rfl,by simp[zI],hx,λv h=>by simp at h,rfl,rfl⟩;rintro j st ⟨i,q,I,kn,yf,K,P,x3,x9,U,rfl⟩;refine bq JI.eq_1 ?_;have q7:LX ((y+7,.row false 4 (j8 q))::(y+6,.var false [.p (.bool false),.p (.int .i64 0),.p (.int .i64 0),.p (.str ⟨#[]⟩)])::(y+5,.var false [.p (.int .i64 t),.p (.int .i64 n),.p (.str s),.p (.slice f (aJ m))])::L) (y+8):=q6.cons;have A:∀x,ah (L++Hx p x) (y+9)=none:=λx=>h.nn x _ ae
  have B:∀x,az (y+9) (L++Hx p x)=L++Hx p x:=λx=>h.bb x _ ae
  have C:∀x,cL (y+9) (L++Hx p x)=true:=λx=>h.ll x _ ae
  have l:∀x,az (y+10) (L++Hx p x)=L++Hx p x:=λx=>h.bb x _ ae
  have l10:∀x,cL (y+10) (L++Hx p x)=true:=λx=>h.ll x _ ae
  rcases cK i m.length with c|c
  .have o:(i:Int)<m.length:=ae;have h2:(0:Int)<=i:=ae;have W:=jh m i c;rw[aF.pM]at W;have hm:m[i]∈m:=List.getElem_mem c;obtain⟨z,M,xa,xb⟩:=Ye p k m[i] (by have:=ja hm;omega) ae (pV he.2.2.2 _ hm) (wS.1 Z _ hm) _ _ I V (q7.cons (k:=.var false [.p (.int .i64 m[i].op),.p (.int .i64 m[i].n),.p (.str m[i].s),.p (.slice m[i].f (aJ m[i].xs))])) x3 hV;simp only[List.cons_append]at M;rw[List.drop_eq_getElem_cons c]at P;simp only[cO]at P;have x4:=(nP m[i] V I).o x3;generalize dH m[i] V I=r at M xa xb P x4;generalize m[i].op=e1 at W M;generalize m[i].n=e2 at W M;generalize m[i].s=e3 at W M;generalize m[i].f=e4 at W M;generalize aJ m[i].xs=e5 at W M;obtain⟨a,x'⟩:=r;have hR:sQ z=[.p (.bool z.isSome),.p (.int .i64 (z.getD V0).k),.p (.int .i64 (z.getD V0).n),.p (.str (z.getD V0).s)]:=rfl;rw[hR]at M;cases a with
   |none=>
    simp only[Option.isSome_none]at M;have hE:xM t (cO m V x)=(none,x'):=by rw[P];rfl
    rw[hE];generalize(z.isSome:Bool)=zb at M;generalize z.getD V0=zv at M;refine gR (j0 A B C l l10 g.q o h2 W @aD bC) trivial M (k1 ?_);all_goals exact⟨⟨none,⟨λa h=>(by cases h),λv h=>(by cases h)⟩⟩,rfl⟩
   |some a=>
    obtain rfl:=xa a rfl;simp only[Option.isSome_some]at M;have h6:=K0 q z;have h8:(j8 q).length=i:=by rw[o9,K]
    have c2:(i+1)*40<=ak:=by simp only[ak];omega
    have c4:i+1<=ak:=by simp only[ak];omega
    have a4:∀a b c d:PV,bV 4 [[a,b,c,d]]=true:=λ_ _ _ _=>rfl
    generalize hb:(z.isSome:Bool)=zb at M h6;generalize z.getD V0=zv at M h6;have x1:(q++[z]).all Option.isSome=(kn&&zb):=by simp[U,hb]
    have xd:∀v,some v∈q++[z]->cQ v:=λv J=>by
     rcases List.mem_append.1 J with J|J
     .exact x9 v J
     .exact xb v (by rw[List.mem_singleton.1 J])
    cases kn with
    |false=>
     refine gR (IJ A B C l l10 g.q o h2 W h6 h8 c2 c4 a4 @aD bC) trivial M (k1 ?_);exact LI.next (m':=j-1) ae ⟨i+1,q++[z],x',false,ae,by simp[K],by rw[P];exact(Bc q z (cO (m.drop (i+1)) V x')).symm,x4,xd,by rw[x1];rfl,rfl⟩
    |true=>
     refine gR (IJ A B C l l10 g.q o h2 W h6 h8 c2 c4 a4 @aD bC) trivial M (k1 ?_);exact LI.next (m':=j-1) ae ⟨i+1,q++[z],x',zb,ae,by simp[K],by rw[P];exact(Bc q z (cO (m.drop (i+1)) V x')).symm,x4,xd,by rw[x1];rfl,rfl⟩
  .have o:¬(i:Int)<m.length:=ae;have xe:i=m.length:=ae;have xf:cO m V x=(some q,I):=by rw[P,xe,List.drop_length];simp[cO,zI]
   rw[xf];have xg:(q.length:Int)=ID t:=by rw[K,xe];exact Y
   by_cases Q:qa t
   .have O:=UT (p:=p) q7 I x3 (q.headD none);simp only[List.cons_append]at O;have x6:q.length=1:=by
     rw[Jn (op:=t) (.inr (by unfold qa at Q;omega)),an (by unfold qa at Q;omega)]at xg;omega
    obtain⟨a,rfl⟩:=List.length_eq_one_iff.1 x6;have hE:xM t (some [a],I)=(if(kx a I).1 then some none else none,(kx a I).2):=by simp only[xM];rw[aq Q];rfl
    have hb:((if(kx a I).1 then some none else none:Option AV)).isSome=(kx a I).1:=by cases(kx a I).1<;>rfl
    have R:Wh (if(kx a I).1 then some none else none) none:=⟨λw e=>by split at e<;>cases e;rfl,λw e=>by split at e<;>cases e⟩
    rw[hE];dsimp only;rw[hb];have D:j8 [a]=[[.bool a.isSome,.int .i64 (a.getD V0).k,.int .i64 (a.getD V0).n,.str (a.getD V0).s]]:=rfl;simp only[List.headD_cons]at O;rw[D]at O;generalize(a.isSome:Bool)=ab at O D;generalize a.getD V0=av at O D;simp only[List.length_singleton]at K;have E:(i=1)=True:=aZ K.symm;have F:(i<=1)=True:=aZ ae;have G:((0:Int)<i)=True:=aZ ae;have H:(0<i)=True:=aZ ae;rcases Q with rfl|rfl|rfl
    .repeat'(first|exact O|(simp(disch:=omega) only[go_sem,seval,reduceCtorEq,A,B,C,l,l10,g.q,o,D,F,E,G,H,bZ,aD,List.set_cons_zero,List.set_cons_succ])|with_reducible exact Ev.mk|refine xY ?_|apply tY|(refine cB (by first|with_reducible exact Ev.mk|(simp(disch:=omega) only[go_sem,seval,reduceCtorEq,A,B,C,l,l10,g.q,o,D,F,E,G,H,bZ,aD,List.set_cons_zero,List.set_cons_succ];done)|(simp(disch:=omega) only[go_sem,seval,reduceCtorEq,A,B,C,l,l10,g.q,o,D,F,E,G,H,bZ,aD,List.set_cons_zero,List.set_cons_succ];with_reducible exact Ev.mk)) (by first|with_reducible exact Ev.mk|(simp(disch:=omega) only[go_sem,seval,reduceCtorEq,A,B,C,l,l10,g.q,o,D,F,E,G,H,bZ,aD,List.set_cons_zero,List.set_cons_succ];done)|(simp(disch:=omega) only[go_sem,seval,reduceCtorEq,A,B,C,l,l10,g.q,o,D,F,E,G,H,bZ,aD,List.set_cons_zero,List.set_cons_succ];with_reducible exact Ev.mk)) (O) (by first|with_reducible exact Ev.mk|(simp(disch:=omega) only[go_sem,seval,reduceCtorEq,A,B,C,l,l10,g.q,o,D,F,E,G,H,bZ,aD,List.set_cons_zero,List.set_cons_succ];done)|(simp(disch:=omega) only[go_sem,seval,reduceCtorEq,A,B,C,l,l10,g.q,o,D,F,E,G,H,bZ,aD,List.set_cons_zero,List.set_cons_succ];with_reducible exact Ev.mk)) ?_)|(refine dh (by first|with_reducible exact Ev.mk|(simp(disch:=omega) only[go_sem,seval,reduceCtorEq,A,B,C,l,l10,g.q,o,D,F,E,G,H,bZ,aD,List.set_cons_zero,List.set_cons_succ];done)|(simp(disch:=omega) only[go_sem,seval,reduceCtorEq,A,B,C,l,l10,g.q,o,D,F,E,G,H,bZ,aD,List.set_cons_zero,List.set_cons_succ];with_reducible exact Ev.mk)) (O) ?_)|((first|apply b5|apply bO)<;>intro N hb<;>(simp(disch:=omega) only[go_sem,seval,reduceCtorEq,A,B,C,l,l10,g.q,o,D,F,E,G,H,bZ,aD,List.set_cons_zero,List.set_cons_succ,N])<;>clear N))
     all_goals exact⟨⟨none,R⟩,rfl⟩
    .repeat'(first|exact O|(simp(disch:=omega) only[go_sem,seval,reduceCtorEq,A,B,C,l,l10,g.q,o,D,F,E,G,H,bZ,aD,List.set_cons_zero,List.set_cons_succ])|with_reducible exact Ev.mk|refine xY ?_|apply tY|(refine cB (by first|with_reducible exact Ev.mk|(simp(disch:=omega) only[go_sem,seval,reduceCtorEq,A,B,C,l,l10,g.q,o,D,F,E,G,H,bZ,aD,List.set_cons_zero,List.set_cons_succ];done)|(simp(disch:=omega) only[go_sem,seval,reduceCtorEq,A,B,C,l,l10,g.q,o,D,F,E,G,H,bZ,aD,List.set_cons_zero,List.set_cons_succ];with_reducible exact Ev.mk)) (by first|with_reducible exact Ev.mk|(simp(disch:=omega) only[go_sem,seval,reduceCtorEq,A,B,C,l,l10,g.q,o,D,F,E,G,H,bZ,aD,List.set_cons_zero,List.set_cons_succ];done)|(simp(disch:=omega) only[go_sem,seval,reduceCtorEq,A,B,C,l,l10,g.q,o,D,F,E,G,H,bZ,aD,List.set_cons_zero,List.set_cons_succ];with_reducible exact Ev.mk)) (O) (by first|with_reducible exact Ev.mk|(simp(disch:=omega) only[go_sem,seval,reduceCtorEq,A,B,C,l,l10,g.q,o,D,F,E,G,H,bZ,aD,List.set_cons_zero,List.set_cons_succ];done)|(simp(disch:=omega) only[go_sem,seval,reduceCtorEq,A,B,C,l,l10,g.q,o,D,F,E,G,H,bZ,aD,List.set_cons_zero,List.set_cons_succ];with_reducible exact Ev.mk)) ?_)|(refine dh (by first|with_reducible exact Ev.mk|(simp(disch:=omega) only[go_sem,seval,reduceCtorEq,A,B,C,l,l10,g.q,o,D,F,E,G,H,bZ,aD,List.set_cons_zero,List.set_cons_succ];done)|(simp(disch:=omega) only[go_sem,seval,reduceCtorEq,A,B,C,l,l10,g.q,o,D,F,E,G,H,bZ,aD,List.set_cons_zero,List.set_cons_succ];with_reducible exact Ev.mk)) (O) ?_)|((first|apply b5|apply bO)<;>intro N hb<;>(simp(disch:=omega) only[go_sem,seval,reduceCtorEq,A,B,C,l,l10,g.q,o,D,F,E,G,H,bZ,aD,List.set_cons_zero,List.set_cons_succ,N])<;>clear N))
     all_goals exact⟨⟨none,R⟩,rfl⟩
    .repeat'(first|exact O|(simp(disch:=omega) only[go_sem,seval,reduceCtorEq,A,B,C,l,l10,g.q,o,D,F,E,G,H,bZ,aD,List.set_cons_zero,List.set_cons_succ])|with_reducible exact Ev.mk|refine xY ?_|apply tY|(refine cB (by first|with_reducible exact Ev.mk|(simp(disch:=omega) only[go_sem,seval,reduceCtorEq,A,B,C,l,l10,g.q,o,D,F,E,G,H,bZ,aD,List.set_cons_zero,List.set_cons_succ];done)|(simp(disch:=omega) only[go_sem,seval,reduceCtorEq,A,B,C,l,l10,g.q,o,D,F,E,G,H,bZ,aD,List.set_cons_zero,List.set_cons_succ];with_reducible exact Ev.mk)) (by first|with_reducible exact Ev.mk|(simp(disch:=omega) only[go_sem,seval,reduceCtorEq,A,B,C,l,l10,g.q,o,D,F,E,G,H,bZ,aD,List.set_cons_zero,List.set_cons_succ];done)|(simp(disch:=omega) only[go_sem,seval,reduceCtorEq,A,B,C,l,l10,g.q,o,D,F,E,G,H,bZ,aD,List.set_cons_zero,List.set_cons_succ];with_reducible exact Ev.mk)) (O) (by first|with_reducible exact Ev.mk|(simp(disch:=omega) only[go_sem,seval,reduceCtorEq,A,B,C,l,l10,g.q,o,D,F,E,G,H,bZ,aD,List.set_cons_zero,List.set_cons_succ];done)|(simp(disch:=omega) only[go_sem,seval,reduceCtorEq,A,B,C,l,l10,g.q,o,D,F,E,G,H,bZ,aD,List.set_cons_zero,List.set_cons_succ];with_reducible exact Ev.mk)) ?_)|(refine dh (by first|with_reducible exact Ev.mk|(simp(disch:=omega) only[go_sem,seval,reduceCtorEq,A,B,C,l,l10,g.q,o,D,F,E,G,H,bZ,aD,List.set_cons_zero,List.set_cons_succ];done)|(simp(disch:=omega) only[go_sem,seval,reduceCtorEq,A,B,C,l,l10,g.q,o,D,F,E,G,H,bZ,aD,List.set_cons_zero,List.set_cons_succ];with_reducible exact Ev.mk)) (O) ?_)|((first|apply b5|apply bO)<;>intro N hb<;>(simp(disch:=omega) only[go_sem,seval,reduceCtorEq,A,B,C,l,l10,g.q,o,D,F,E,G,H,bZ,aD,List.set_cons_zero,List.set_cons_succ,N])<;>clear N))
     all_goals exact⟨⟨none,R⟩,rfl⟩
   have xh:¬t=22:=λe=>Q (.inl e)
   have xj:¬t=23:=λe=>Q (.inr (.inl e))
   have xk:¬t=24:=λe=>Q (.inr (.inr e))
   cases kn with
   |false=>
    have hE:xM t (some q,I)=(some none,I):=by simp only[xM];rw[an Q,U];rfl
    rw[hE];refine gN (q9 A B C l l10 g.q o xh xj xk @aD bC) (k1 ?_);all_goals exact⟨⟨none,⟨λa h=>(by cases h;rfl),λv h=>(by cases h)⟩⟩,rfl⟩
   |true=>
    have hE:xM t (some q,I)=((ir t (q.map λv=>v.getD V0)).map some,I):=by simp only[xM];rw[an Q,aq U]
    have xl:(q.map λv=>v.getD V0).map some=q:=all_some U;have xm:∀v∈q.map λv=>v.getD V0,cQ v:=λv J=>by
     have:some v∈q:=by rw[<-xl];exact List.mem_map_of_mem J
     exact x9 v this
    have xy:(q.map λv=>v.getD V0).length=q.length:=List.length_map ..;have xz:ID t=D2 t:=by have:=sr (HH t) (H0 t);injection this
    obtain⟨v,hp,hw⟩:=MT t (q.map λv=>v.getD V0) false he.1 (by rw[xy,xg,xz]) o1 o2 o3 Q xm;rw[xl]at hp;have R:Wh ((ir t (q.map λv=>v.getD V0)).map some) (some v):=⟨λa S=>by
     cases e:ir t (q.map λv=>v.getD V0)with
     |none=>rw[e]at S;cases S
     |some w=>rw[e]at S;cases S;rw[hw w e],λu hu=>by
     cases e:ir t (q.map λv=>v.getD V0)with
     |none=>rw[e]at hu;cases hu
     |some w=>rw[e]at hu;cases hu;exact E5 Q xm e⟩
    have hb:((ir t (q.map λv=>v.getD V0)).map some).isSome=(ir t (q.map λv=>v.getD V0)).isSome:=Option.isSome_map ..;rw[hE];dsimp only;rw[hb];have t8:(j8 q).take i=j8 q:=List.take_of_length_le (by rw[o9,K];exact Nat.le_refl _);have h8:(j8 q).length=i:=by rw[o9,K]
    generalize(ir t (q.map λv=>v.getD V0)).isSome=rb at hp;refine gP (Jj A B C l l10 g.q o h8 t8 xh xj xk @aD bC) hp (k1 ?_);all_goals exact⟨⟨some v,R⟩,rfl⟩
end
section
open Go Go.Dv
def tO{x:VX}:pQ x↔∃d:List ByteArray,d.Nodup/\(∀k,k∈d↔(x.f k).isSome=true)/\d.length=x.n:=by
 constructor
 .rintro⟨l,⟨g,f⟩,h⟩;refine⟨l.map (·.1),g,λk=>⟨λc=>?_,λc=>?_⟩,by rw[List.length_map,h]⟩
  .obtain⟨e,i,rfl⟩:=List.mem_map.1 c;have:=(f e.1 e.2).1 i;cases b:x.f e.1 with
   |none=>simp[dJ,b]at this
   |some a=>rfl
  .cases b:x.f k with
   |none=>rw[b]at c;cases c
   |some a=>exact List.mem_map.2 ⟨(k,tz a),(f k (tz a)).2 (by simp[dJ,b]),rfl⟩
 .rintro⟨d,g,f,h⟩;refine⟨d.map λk=>(k,tz (x.get k)),⟨by rw[List.map_map];simpa[HY]using g,λk v=>?_⟩,by rw[List.length_map,h]⟩;constructor
  .intro c;obtain⟨j,m,e⟩:=List.mem_map.1 c;cases e;have:=(f k).1 m;cases b:x.f k with
   |none=>rw[b]at this;cases this
   |some a=>simp[dJ,b,VX.get]
  .intro c;cases b:x.f k with
   |none=>simp[dJ,b]at c
   |some a=>
    simp only[dJ,b,Option.map_some,aw]at c;exact List.mem_map.2 ⟨k,(f k).2 (by rw[b];rfl),by rw[<-c];simp[VX.get,b]⟩
def ta{V:VX}(h:pQ V)(k:ByteArray)(a:AV):pQ (V.set k a):=by
 obtain⟨d,f,b,g⟩:=tO.1 h;refine tO.2 ?_;by_cases c:(V.f k).isSome=true
 .refine⟨d,f,λj=>?_,by simp only[VX.set];rw[aq c,g]⟩;simp only[VX.set];by_cases e:j=k
  .rw[aq e,e];exact⟨λ_=>rfl,λ_=>(b k).2 c⟩
  .rw[an e];exact b j
 .refine⟨k::d,List.nodup_cons.2 ⟨λe=>c ((b k).1 e),f⟩,λj=>?_,by simp only[VX.set];rw[an c,List.length_cons,g]⟩;simp only[VX.set];by_cases e:j=k
  .rw[aq e,e];exact⟨λ_=>rfl,λ_=>List.mem_cons_self ..⟩
  .rw[an e,List.mem_cons];exact⟨λq=>q.elim (λq=>absurd q e) λq=>(b j).1 q,λq=>.inr ((b j).2 q)⟩
def ur{a:VX}(h:pQ a)(b:VX):pQ (jm a b):=by
 obtain⟨c,d,e,f⟩:=tO.1 h;exact tO.2 ⟨c,d,λj=>by rw[e j];simp only[jm,Option.isSome_map],f⟩
def wO{V:VX}(h:VK V)(k:ByteArray)(a:AV)(c:∀v,a=some v->cQ v):VK (V.set k a):=λj v e=>by
 simp only[VX.set]at e;by_cases b:j=k
 .rw[aq b]at e;cases e;exact c v rfl
 .rw[an b]at e;exact h j v e
def xR{a:VX}(h:VK a)(b:VX):VK (jm a b):=λj v e=>by
 simp only[jm]at e;cases c:a.f j with
 |none=>rw[c]at e;cases e
 |some z=>
  rw[c]at e;simp only[Option.map_some,aw]at e;split at e
  .subst e;exact h j v c
  .cases e
mutual
theorem vW(e:aF)(b:e.ok)(V:VX)(d:VK V)(x:XS)(v:bX)(h:(dH e V x).1=some (some v)):cQ v:=by
 cases e with
 |mk j n s f g=>
  simp only[aF.ok]at b;unfold dH at h;split at h
  .cases h;exact jA b.2.1
  split at h
  .cases h;exact⟨df.c2,df.z,b.2.2.1⟩
  split at h
  .simp only[VX.get,aw]at h;cases c:V.f s with
   |none=>rw[c]at h;cases h
   |some a=>rw[c]at h;simp only[il]at h;subst h;exact d s v c
  have i:=A7 g b.2.2.2 V d x;generalize cO g V x=r at h i;obtain⟨_|l,p⟩:=r
  .cases h
  .simp only at h;split at h
   .simp only at h;split at h<;>cases h
   .next k=>
    split at h
    .next m=>
     cases e:ir j (l.map λv=>v.getD V0)with
     |none=>rw[e]at h;cases h
     |some w=>
      rw[e]at h;cases h;refine E5 k (λu o=>?_) e;have:some u∈l:=by rw[<-all_some m];exact List.mem_map_of_mem o
      exact i l rfl u this
    .cases h
theorem A7(l:List aF)(b:fQ l)(V:VX)(d:VK V)(x:XS)(f:List AV)(h:(cO l V x).1=some f)(v:bX)(g:some v∈f):cQ v:=by
 cases l with
 |nil=>simp only[cO]at h;cases h;cases g
 |cons e r=>
  simp only[fQ]at b;have i:=vW e b.1 V d x;unfold cO at h;generalize dH e V x=q at h i;obtain⟨_|a,j⟩:=q
  .cases h
  .simp only at h;have k:=A7 r b.2 V d j;generalize cO r V j=q at h k;obtain⟨_|c,m⟩:=q
   .cases h
   .cases h;rcases List.mem_cons.1 g with e|e
    .subst e;exact i v rfl
    .exact k c rfl v e
end
def zO(f:VX->XS->RX):Prop:=∀V x W,VK V->pQ V->(f V x).1=some W->VK W/\pQ W
def BR{f:Int->VX->XS->RX}:∀(n:Nat) (a:Int),(∀i,a<=i->i<a+n->zO (f i))->zO (gG f n a)
 |0,_,_,V,x,W,b,c,e=>by cases e;exact⟨b,c⟩
 |n+1,a,g,V,x,W,b,c,e=>by
  unfold gG at e;have d:=g a ae ae V x;generalize f a V x=r at e d;obtain⟨_|U,j⟩:=r
  .cases e
  .obtain⟨h,k⟩:=d U b c rfl;exact BR n _ (λi d h=>g i ae ae) U j W h k e
def Is{f:VX->XS->RX}(c:zO f):∀n:Nat,zO (iE f n)
 |0,V,x,W,a,b,e=>by cases e;exact⟨a,b⟩
 |n+1,V,x,W,a,b,e=>by
  unfold iE at e;have d:=c V x;generalize f V x=r at e d;obtain⟨U,g⟩:=r;simp only at e;split at e
  .cases e
  cases U with
  |none=>cases e;exact⟨a,b⟩
  |some U=>exact Is c n _ g W (xR a U) (ur b U) e
def Qe{f g:VX->XS->RX}(l:zO f)(m:zO g):zO λV=>pf (f V) (g V):=λV x W d h e=>by
 simp only[pf]at e;have i:=l V x;generalize f V x=r at e i;obtain⟨U,j⟩:=r;simp only at e;split at e
 .cases e
 have k:=m V j;generalize g V j=r at e k;obtain⟨c,n⟩:=r;simp only at e;split at e
 .cases e
 cases U with
 |none=>cases c with
  |none=>cases e
  |some c=>cases e;exact k _ d h rfl
 |some U=>cases c with
  |none=>cases e;exact i _ d h rfl
  |some c=>
   cases e;obtain⟨a,b⟩:=i U d h rfl;exact⟨xR a _,ur b _⟩
def yW{r:Bool×XS}{V W:VX}(h:(pr r V).1=some W):W=V:=by
 simp only[pr]at h;split at h<;>cases h
 rfl
mutual
theorem J1(s:aX)(q:s.ok):zO (mP s):=λV x W d j e=>by
 cases s with
 |mk K name max a b f c g m=>
  simp only[aX.ok]at q;obtain⟨_,_,C,⟨D,_⟩,⟨E,_⟩,k,n⟩:=q;unfold mP at e;split at e
  .cases e
  have p:=vW a D V d x;generalize dH a V x=r at e p;obtain⟨_|t,o⟩:=r
  .cases e
  simp only at e;split at e
  .cases e;exact⟨wO d _ _ λv e=>p v (by rw[e]),ta j _ _⟩
  split at e
  .cases e;exact⟨d,j⟩
  split at e
  .rw[yW e];exact⟨d,j⟩
  split at e
  .cases t with
   |none=>exact Qe (lS c k) (lS m n) V o W d j e
   |some u=>
    simp only at e;split at e
    .exact lS c k V o W d j e
    .exact lS m n V o W d j e
  have y:=vW b E V d o;generalize dH b V o=r at e y;obtain⟨_|F,l⟩:=r
  .cases e
  simp only at e;split at e
  .rw[yW e];exact⟨d,j⟩
  have A:∀z:AV,(∀v,z=some v->cQ v)->zO λV x=>bp c (V.set name z) x:=λz G V x W d j e=>lS c k _ x W (wO d _ _ G) (ta j _ _) e
  have B:(iE (λV x=>bp c (V.set name none) x) max.toNat V l).1=some W->VK W/\pQ W:=Is (A none λv h=>by cases h) _ V l W d j;unfold BP at e;cases t with
  |none=>exact B e
  |some u=>cases F with
   |none=>exact B e
   |some w=>
    simp only at e;split at e
    .cases e
    .have H:=(p u rfl).2.1;have I:=(y w rfl).2.1;refine BR _ _ (λi L M=>A _ λv J=>?_) V l W d j e;cases J;exact jA ⟨by have:=H.1;omega,by have:=I.2;omega⟩
theorem lS(l:List aX)(a:cD l):zO (bp l):=λV x W b c e=>by
 cases l with
 |nil=>simp only[bp]at e;cases e;exact⟨b,c⟩
 |cons s r=>
  simp only[cD]at a;unfold bp at e;have d:=J1 s a.1 V x;generalize mP s V x=q at e d;obtain⟨_|U,f⟩:=q
  .cases e
  .obtain⟨g,h⟩:=d U b c rfl;exact lS r a.2 U f W g h e
end
end
section
open Go Go.Dv
def jj(r:Option VX):DV:=match r with
 |none=>.p .undef
 |some V=>.p (.map V.n (dJ V.f))
abbrev iL(r:RX):DV:=.tuple [jj r.1,.p (.bool r.1.isSome)]
def Y5(p:Pc)(s:aX):Prop:=∀(L:Heap) (a:Nat) (x:XS) (V:VX),LX L a->wq x->VK V->pQ V->∃z:PV,(∀W,(mP s V x).1=some W->z=.map W.n (dJ W.f))/\BS tb 127 [.ptr 4 0,.agg s.d,.p (.map V.n (dJ V.f))] (L++Hx p x) a (.tuple [.p z,.p (.bool (mP s V x).1.isSome)]) (L++Hx p (mP s V x).2) a
def Hu(p:Pc)(f:Bool)(l:List aX):Prop:=∀(L:Heap) (a:Nat) (x:XS) (V:VX),LX L a->wq x->VK V->pQ V->BS tb 101 [.ptr 4 0,.p (.slice f (bD l)),.p (.map V.n (dJ V.f))] (L++Hx p x) a (iL (bp l V x)) (L++Hx p (bp l V x).2) a
def FT{p:Pc}(f:Bool)(l:List aX)(R:cD l)(I:l.length<=1099511627776)(S:∀s∈l,Y5 p s):Hu p f l:=by
 intro L nx x V h T U X;obtain⟨y,rfl⟩:=h.ex;have g:=h.xf (p:=p);refine cH (af:=QX) rfl rfl ?_;unfold QX;dsimp only[aj];refine gN (c9 g.q @aU bC) (k1 ?_);refine bU (λj J=>∃(i:Nat) (t:XS) (m:VX),i+j=l.length/\bp l V x=bp (l.drop i) m t/\wq t/\VK m/\pQ m/\J=⟨[(0,.ptr 4 0),(2,.p (.map m.n (dJ m.f))),(12,.p (.slice f (bD l))),(13,.p (.int .i64 l.length)),(14,.p (.int .i64 i))],L++Hx p t,y+5,[y+5,y+5]⟩) ?_ l.length _ ⟨0,x,V,ae,rfl,T,U,X,rfl⟩;rintro j J ⟨i,t,m,Y,G,B,C,D,rfl⟩;refine bq KG.eq_1 ?_;rw[G];have n:(4<y+5)=True:=aZ ae;rcases cK i l.length with c|c
 .have d:(i:Int)<l.length:=ae;have o:(0:Int)<=i:=ae;have e:=kG l i c;have K:=S l[i] (List.getElem_mem c);have H:=fk R l[i] (List.getElem_mem c);rw[List.drop_eq_getElem_cons c];have w:=J1 l[i] H m t;have A:=(C7 l[i] m t).o B;have M:bp (l[i]::l.drop (i+1)) m t=match mP l[i] m t with|(none,x)=>(none,x)|(some V,x)=>bp (l.drop (i+1)) V x:=by rw[bp];rfl
  rw[M];generalize hq:l[i]=q at e K w A⊢;obtain⟨N,name,max,a,b,O,v,P,E⟩:=q;obtain⟨z,Q,u⟩:=K _ _ t m (h.cons (k:=.var false (bA N name max a b O v P E))) B C D;simp only[aX.d,List.cons_append]at u;simp only[bA]at u;simp only[aX.cs]at e;generalize mP (.mk N name max a b O v P E) m t=r at u Q w A⊢;obtain⟨_|W,Z⟩:=r
  .simp only[iL,jj,Option.isSome_none]at u⊢;exact gR (uU g.q n d o e @aU bC) trivial u k0
  .obtain rfl:=Q W rfl;simp only[iL,jj,Option.isSome_some]at u⊢;obtain⟨k1,k2⟩:=w W C D rfl;repeat'(first|exact u|(simp(disch:=omega) only[go_sem,seval,reduceCtorEq,g.q,n,d,o,e,aU,List.set_cons_zero,List.set_cons_succ])|with_reducible exact Ev.mk|refine xY ?_|apply tY|(refine cB (by first|with_reducible exact Ev.mk|(simp(disch:=omega) only[go_sem,seval,reduceCtorEq,g.q,n,d,o,e,aU,List.set_cons_zero,List.set_cons_succ];done)|(simp(disch:=omega) only[go_sem,seval,reduceCtorEq,g.q,n,d,o,e,aU,List.set_cons_zero,List.set_cons_succ];with_reducible exact Ev.mk)) (by first|with_reducible exact Ev.mk|(simp(disch:=omega) only[go_sem,seval,reduceCtorEq,g.q,n,d,o,e,aU,List.set_cons_zero,List.set_cons_succ];done)|(simp(disch:=omega) only[go_sem,seval,reduceCtorEq,g.q,n,d,o,e,aU,List.set_cons_zero,List.set_cons_succ];with_reducible exact Ev.mk)) (u) (by first|with_reducible exact Ev.mk|(simp(disch:=omega) only[go_sem,seval,reduceCtorEq,g.q,n,d,o,e,aU,List.set_cons_zero,List.set_cons_succ];done)|(simp(disch:=omega) only[go_sem,seval,reduceCtorEq,g.q,n,d,o,e,aU,List.set_cons_zero,List.set_cons_succ];with_reducible exact Ev.mk)) ?_)|(refine dh (by first|with_reducible exact Ev.mk|(simp(disch:=omega) only[go_sem,seval,reduceCtorEq,g.q,n,d,o,e,aU,List.set_cons_zero,List.set_cons_succ];done)|(simp(disch:=omega) only[go_sem,seval,reduceCtorEq,g.q,n,d,o,e,aU,List.set_cons_zero,List.set_cons_succ];with_reducible exact Ev.mk)) (u) ?_)|((first|apply b5|apply bO)<;>intro F M<;>(simp(disch:=omega) only[go_sem,seval,reduceCtorEq,g.q,n,d,o,e,aU,List.set_cons_zero,List.set_cons_succ,F])<;>clear F))
   exact LI.next (m':=j-1) ae ⟨i+1,Z,W,ae,rfl,A,k1,k2,rfl⟩
 .have d:¬(i:Int)<l.length:=ae;rw[List.drop_eq_nil_of_le c];simp only[bp,iL,jj,Option.isSome_some];exact gN (eY g.q d @aU bC) k0
end
section
open Go Go.Dv
def Gh(c:AV)(a b:List aX)(V:VX)(x:XS):RX:=match c with
 |some u=>if u.n=1 then bp a V x else bp b V x
 |none=>pf (bp a V) (bp b V) x
def Mk{p:Pc}{op:Int}{name:ByteArray}{max:Int}{a b:aF}{f:Bool}{c:List aX}{g:Bool}{i:List aX}(G:Hu p f c)(F:Hu p g i)(H:zO (bp c))(s:AV){L:Heap}{z:Nat}{x:XS}{V:VX}(h:LX L z)(C:wq x)(w:VK V)(t:pQ V):
  BS tb 158 [.ptr 4 0,.agg (bA op name max a b f c g i),.agg (sQ s),.p (.map V.n (dJ V.f))] (L++Hx p x) z (iL (Gh s c i V x)) (L++Hx p (Gh s c i V x).2) z:=by
 obtain⟨y,rfl⟩:=h.ex;have j:=h.xf (p:=p);have D:=(h.cons (k:=.var false (bA op name max a b f c g i))).cons (k:=.var false (sQ s));have d:=G _ _ x V D C w t;have o:=F _ _ x V D C w t;have m:=LO V t;refine cH (af:=TN) rfl rfl ?_;unfold TN;dsimp only[aj,bA,sQ];simp only[bA,sQ,List.cons_append]at d o;cases s with
 |some u=>
  simp only[Option.isSome_some,il]at d o⊢;by_cases q:u.n=1
  .simp only[Gh,aq q];generalize bp c V x=r at d⊢;obtain⟨_|W,I⟩:=r
   .simp only[iL,jj,Option.isSome_none]at d⊢;exact gR (c9 j.q (aZ q) bC) trivial d k0
   .simp only[iL,jj,Option.isSome_some]at d⊢;exact gR (c9 j.q (aZ q) bC) trivial d k0
  .simp only[Gh,an q];generalize bp i V x=r at o⊢;obtain⟨_|W,I⟩:=r
   .simp only[iL,jj,Option.isSome_none]at o⊢;exact gR (c9 j.q q bC) trivial o k0
   .simp only[iL,jj,Option.isSome_some]at o⊢;exact gR (c9 j.q q bC) trivial o k0
 |none=>
  simp only[Option.isSome_none,tj]at d⊢;have v:=(dV c V x).o C;have k1:=H V x;simp only[Gh,pf];generalize bp c V x=r at d v k1⊢;obtain⟨A,E⟩:=r;cases l:E.failed with
  |true=>
   simp only[l,bZ,iL,jj,Option.isSome_none];cases A with
   |none=>
    simp only[iL,jj,Option.isSome_none]at d;exact gR (c9 j.q l bC) m d k0
   |some A=>
    simp only[iL,jj,Option.isSome_some]at d;exact gR (c9 j.q l bC) m d k0
  |false=>
   have e:=F _ _ E V D v w t;simp only[bA,sQ,List.cons_append,Option.isSome_none,tj]at e;simp only[l,Bool.false_eq_true,cy];generalize bp i V E=r at e⊢;obtain⟨B,J⟩:=r;cases n:J.failed with
   |true=>
    simp only[n,bZ,iL,jj,Option.isSome_none];cases A with
    |none=>cases B with
     |none=>
      simp only[iL,jj,Option.isSome_none]at d e;exact gR (eY j.q l n bC) m (bf d e) k0
     |some B=>
      simp only[iL,jj,Option.isSome_none,Option.isSome_some]at d e;exact gR (eY j.q l n bC) m (bf d e) k0
    |some A=>cases B with
     |none=>
      simp only[iL,jj,Option.isSome_none,Option.isSome_some]at d e;exact gR (eY j.q l n bC) m (bf d e) k0
     |some B=>
      simp only[iL,jj,Option.isSome_some]at d e;exact gR (eY j.q l n bC) m (bf d e) k0
   |false=>
    simp only[n,Bool.false_eq_true,cy];cases A with
    |none=>cases B with
     |none=>
      simp only[iL,jj,Option.isSome_none]at d e⊢;exact gR (eY j.q l n bC) m (bf d e) k0
     |some B=>
      simp only[iL,jj,Option.isSome_none,Option.isSome_some]at d e⊢;exact gR (eY j.q l n bC) m (bf d e) k0
    |some A=>cases B with
     |none=>
      simp only[iL,jj,Option.isSome_none,Option.isSome_some]at d e⊢;exact gR (eY j.q l n bC) m (bf d e) k0
     |some B=>
      simp only[iL,jj,Option.isSome_some]at d e⊢;have K:=CO A B (k1 A w t rfl).2;exact gR (eY j.q l n bC) (bf m K) (bf d e) k0
end
end Go.Dv.Tryz
