/- Lemmas for the law of this claim. -/
import Derived.Test.YtcphhjkcgikdgaaGreatDoorP36
import Derived.Test.YtcphhjkcgikdgaaGreatDoorP37
import Derived.Test.YtcphhjkcgikdgaaGreatDoorP27
import Derived.Test.YtcphhjkcgikdgaaGreatDoorP26
import Derived.Test.YtcphhjkcgikdgaaGreatDoorP30
import Derived.Test.YtcphhjkcgikdgaaGreatDoorP32
set_option linter.all false
set_option maxRecDepth 100000
set_option maxHeartbeats 8000000
namespace Go.Dv.Tryz
section
open Go Go.Dv
def jY{x:List PV}:∀{a:List (List PV)},x∈a->cU x<=iZ a
 |[],h=>by simp at h
 |y::r,h=>by
  simp only[iZ];rcases List.mem_cons.1 h with rfl|h
  .omega
  .have:=jY h;omega
def kH:∀{xs:List (List PV)},(∀x∈xs,1<=cU x)->xs.length<=iZ xs
 |[],_=>Nat.zero_le _
 |x::r,h=>by
  have b:=h x aB;have c:=kH (xs:=r) λy a=>h y (by simp[a])
  simp only[List.length_cons,iZ];omega
def Ga(y:PV):1<=dK y:=by cases y<;>simp[dK]
def oM{f:Type}{c:f->List PV}{P:f->Prop}:∀(d:List (List PV)),(∀x∈d,∃a,x=c a/\P a)->∃l:List f,d=l.map c/\∀a∈l,P a
 |[],_=>⟨[],rfl,aB⟩
 |x::d,h=>by
  obtain⟨a,g,i⟩:=h x aB;obtain⟨l,j,k⟩:=oM (c:=c) (P:=P) d λy m=>h y (by simp[m])
  exact⟨a::l,by rw[g,j];rfl,λb n=>by rcases List.mem_cons.1 n with rfl|e;exact i;exact k b e⟩
def La{l:List Go.Dv.Sh}{a:List (List PV)}(c:∀x∈a,x.length=l.length)(d:∀(i:Nat) x (j:Nat) s y,a[i]?=some x->l[j]?=some s->x[j]?=some y->Fit s y):∀x∈a,Fits l x:=λx b=>⟨c x b,λj s y e f=>by
 obtain⟨i,g⟩:=List.mem_iff_getElem?.1 b;exact d i x j s y g e f⟩
def uA{l:List Go.Dv.Sh}{y:PV}(h:Fit (.slice l) y):∃a,y=.slice false a/\∀x∈a,Fits l x:=by
 cases h with
 |slice l a h b c=>exact⟨a,rfl,La b c⟩
def Ob{t:Nat}{y:PV}(h:Fit (.rows t) y):∃l a,th t=some l/\y=.slice false a/\∀x∈a,Fits l x:=by
 cases h with
 |rows t l a b h c d=>exact⟨l,a,b,rfl,La c d⟩
def nE{y:PV}(h:Fit (.int .i64) y):∃n,y=.int .i64 n/\df n:=by
 cases h with
 |int k n h=>
  refine⟨n,rfl,?_⟩;simp[Lit.wf,IntKind.min,IntKind.max,IntKind.signed,IntKind.bits]at h;unfold df;omega
def qB{y:PV}(h:Fit .str y):∃s,y=.str s:=by
 cases h with
 |str s h=>exact⟨s,rfl⟩
def X3{y:PV}(h:Fit .bool y):∃b,y=.bool b:=by
 cases h with
 |bool b=>exact⟨b,rfl⟩
def zE{a:Type}{f:a->a}:∀{l:List a},(∀e∈l,f e=e)->l.map f=l
 |[],_=>rfl
 |e::r,h=>by rw[List.map_cons,h e aB,zE λx b=>h x (by simp[b])]
def AN:∀l:List aF,aJ l=l.map aF.cs
 |[]=>by simp[aJ]
 |e::r=>by simp[aJ,AN r]
def Bo:∀l:List aX,bD l=l.map aX.cs
 |[]=>by simp[bD]
 |e::r=>by simp[bD,Bo r]
def Ot:∀(l:List aF),(∀e∈l,e.sz<=cU e.cs/\(cU e.cs<=iq->e.ok))->cI l<=iZ (aJ l)/\(iZ (aJ l)<=iq->fQ l)
 |[],_=>⟨by simp[cI],λ_=>by simp[fQ]⟩
 |e::r,h=>by
  obtain⟨d,a⟩:=h e aB;obtain⟨f,b⟩:=Ot r λx c=>h x (by simp[c])
  simp only[cI,aJ,iZ,fQ];exact⟨ae,λg=>⟨a ae,b ae⟩⟩
def On:∀(l:List aX),(∀e∈l,e.sz<=cU e.cs/\(cU e.cs<=iq->e.ok))->dF l<=iZ (bD l)/\(iZ (bD l)<=iq->cD l)
 |[],_=>⟨by simp[dF],λ_=>by simp[cD]⟩
 |e::r,h=>by
  obtain⟨d,a⟩:=h e aB;obtain⟨f,b⟩:=On r λx c=>h x (by simp[c])
  simp only[dF,bD,iZ,cD];exact⟨ae,λg=>⟨a ae,b ae⟩⟩
def ET:∀(n:Nat) (y:PV),dK y<=n->Fit (.rows 88) y->∃l:List aF,y=.slice false (aJ l)/\cI l<=dK y/\(dK y<=iq->fQ l)/\kK l=l
 |0,y,h,_=>by have:=Ga y;omega
 |n+1,y,p,h=>by
  obtain⟨E,q,a,rfl,r⟩:=Ob h;simp only[th,aw]at a;subst a;simp only[dK]at p⊢;obtain⟨l,i,j⟩:=oM (c:=aF.cs) (P:=λe=>(e.sz<=cU e.cs/\(cU e.cs<=iq->e.ok))/\iF e=e) q λx b=>by
   have f:=jY b;have h:=r x b;obtain⟨F,G,rfl,t,h⟩:=h.cons;obtain⟨H,I,rfl,u,h⟩:=h.cons;obtain⟨J,K,rfl,v,h⟩:=h.cons;obtain⟨w,L,rfl,z,h⟩:=h.cons;have A:=h.nil;subst A;obtain⟨B,rfl,g⟩:=nE t;obtain⟨k,rfl,C⟩:=nE u;obtain⟨s,rfl⟩:=qB v;simp only[cU,dK]at f;obtain⟨l,rfl,m,d,D⟩:=ET n w ae z;refine⟨.mk B k s false l,by simp[aF.cs],⟨?_,λo=>?_⟩,by simp only[iF,D]⟩
   .simp only[aF.cs,aF.sz,cU,dK]at m⊢;omega
   .simp only[aF.cs,aF.ok,cU,dK]at o d⊢;exact⟨g,C,ae,d ae⟩
  rw[<-AN]at i;subst i;obtain⟨m,d⟩:=Ot l λe a=>(j e a).1
  exact⟨l,rfl,ae,λo=>d ae,by rw[r9];exact zE λe a=>(j e a).2⟩
def JZ{d f b a:PV}(h:Fit (.int .i64) d)(i:Fit (.int .i64) f)(j:Fit .str b)(m:Fit (.rows 88) a):
  ∃e:aF,d=.int .i64 e.op/\f=.int .i64 e.n/\b=.str e.s/\a=.slice e.f (aJ e.xs)/\e.sz<=dK b+dK a/\(dK b+dK a<=iq->e.ok)/\iF e=e:=by
 obtain⟨n,rfl,c⟩:=nE h;obtain⟨k,rfl,o⟩:=nE i;obtain⟨s,rfl⟩:=qB j;obtain⟨l,rfl,p,g,q⟩:=ET _ a (Nat.le_refl _) m;refine⟨.mk n k s false l,rfl,rfl,rfl,rfl,?_,λr=>?_,by simp only[iF,q]⟩
 .simp only[aF.sz,dK]at p⊢;omega
 .simp only[aF.ok,dK]at r g⊢;exact⟨c,o,ae,g ae⟩
def zx:∀(n:Nat) (y:PV),dK y<=n->Fit (.rows 90) y->∃l:List aX,y=.slice false (bD l)/\dF l<=dK y/\(dK y<=iq->cD l)/\jx l=l
 |0,y,h,_=>by have:=Ga y;omega
 |n+1,y,t,h=>by
  obtain⟨sh,u,d,rfl,v⟩:=Ob h;simp only[th,aw]at d;subst d;simp only[dK]at t⊢;obtain⟨l,m,o⟩:=oM (c:=aX.cs) (P:=λe=>(e.sz<=cU e.cs/\(cU e.cs<=iq->e.ok))/\qP e=e) u λx f=>by
   have g:=jY f;have h:=v x f;obtain⟨y0,u0,rfl,w,h⟩:=h.cons;obtain⟨y1,u1,rfl,z,h⟩:=h.cons;obtain⟨y2,u2,rfl,A,h⟩:=h.cons;obtain⟨y3,u3,rfl,B,h⟩:=h.cons;obtain⟨y4,u4,rfl,C,h⟩:=h.cons;obtain⟨y5,u5,rfl,D,h⟩:=h.cons;obtain⟨y6,u6,rfl,E,h⟩:=h.cons;obtain⟨y7,u7,rfl,F,h⟩:=h.cons;obtain⟨y8,u8,rfl,G,h⟩:=h.cons;obtain⟨y9,u9,rfl,H,h⟩:=h.cons;obtain⟨ya,ua,rfl,I,h⟩:=h.cons;obtain⟨J,ub,rfl,K,h⟩:=h.cons;obtain⟨L,uc,rfl,M,h⟩:=h.cons;have N:=h.nil;subst N;obtain⟨O,rfl,i⟩:=nE w;obtain⟨Q,rfl⟩:=qB z;obtain⟨R,rfl,j⟩:=nE A;obtain⟨a,rfl,rfl,rfl,rfl,S,p,T⟩:=JZ B C D E;obtain⟨b,rfl,rfl,rfl,rfl,U,q,V⟩:=JZ F G H I;simp only[cU,dK]at g S U p q;obtain⟨W,rfl,r,k1,X⟩:=zx n J ae K;obtain⟨Y,rfl,k,k2,Z⟩:=zx n L ae M;simp only[dK]at r k k1 k2 g;refine⟨.mk O Q R a b false W false Y,by simp[aX.cs],⟨?_,λs=>?_⟩,by simp only[qP,T,V,X,Z]⟩
   .simp only[aX.cs,aX.sz,cU,dK];omega
   .simp only[aX.cs,aX.ok,cU,dK]at s⊢;exact⟨i,ae,j,⟨p ae,ae⟩,⟨q ae,ae⟩,k1 ae,k2 ae⟩
  rw[<-Bo]at m;subst m;obtain⟨r,k⟩:=On l λe d=>(o e d).1
  exact⟨l,rfl,ae,λs=>k ae,by rw[rS];exact zE λe d=>(o e d).2⟩
def OI{y:PV}(h:Fit (.slice [.int .i64,.int .i64,.str]) y):∃l:List bX,y=.slice false (bF l)/\(dK y<=iq->l.length<=1048576/\∀v∈l,cQ v):=by
 have A:iq=1048576:=rfl;obtain⟨m,rfl,g⟩:=uA h;obtain⟨l,rfl,o⟩:=oM (c:=gB) (P:=λv=>cU (gB v)<=iZ m/\1<=cU (gB v)/\df v.k/\df v.n/\v.s.size<=cU (gB v)) m λx f=>by
  have i:=jY f;have h:=g x f;obtain⟨B,C,rfl,p,h⟩:=h.cons;obtain⟨D,E,rfl,q,h⟩:=h.cons;obtain⟨F,G,rfl,r,h⟩:=h.cons;have t:=h.nil;subst t;obtain⟨k,rfl,u⟩:=nE p;obtain⟨n,rfl,w⟩:=nE q;obtain⟨s,rfl⟩:=qB r;refine⟨⟨k,n,s⟩,rfl,i,?_,u,w,?_⟩<;>simp only[gB,cU,dK]<;>omega
 refine⟨l,rfl,λz=>?_⟩;simp only[dK]at z;refine⟨?_,λv j=>?_⟩
 .have:=kH (xs:=l.map gB) λx g=>by
   obtain⟨v,j,rfl⟩:=List.mem_map.1 g;exact(o v j).2.1
  rw[List.length_map]at this;omega
 .obtain⟨a,b,c,d,e⟩:=o v j;exact⟨c,d,ae⟩
def Mo{y:PV}(h:Fit (.slice [.str,.int .i64,.int .i64,.str]) y)(g:dK y<=iq):∃l:List Pr,y=.slice false (bm l)/\l.length<=1048576/\∀p∈l,cQ p.v:=by
 have A:iq=1048576:=rfl;obtain⟨i,rfl,b⟩:=uA h;simp only[dK]at g;obtain⟨l,rfl,f⟩:=oM (c:=uS) (P:=λv=>1<=cU (uS v)/\cQ v.v) i λx a=>by
  have d:=jY a;have h:=b x a;obtain⟨B,C,rfl,j,h⟩:=h.cons;obtain⟨D,E,rfl,m,h⟩:=h.cons;obtain⟨F,G,rfl,o,h⟩:=h.cons;obtain⟨H,I,rfl,q,h⟩:=h.cons;have r:=h.nil;subst r;obtain⟨z,rfl⟩:=qB j;obtain⟨k,rfl,t⟩:=nE m;obtain⟨n,rfl,u⟩:=nE o;obtain⟨s,rfl⟩:=qB q;simp only[cU,dK]at d;exact⟨⟨z,k,n,s⟩,rfl,by simp only[uS,cU,dK];omega,t,u,by show s.size<=iq;omega⟩
 refine⟨l,rfl,?_,λp e=>(f p e).2⟩;have:=kH (xs:=l.map uS) λx b=>by
  obtain⟨v,w,rfl⟩:=List.mem_map.1 b;exact(f v w).1
 rw[List.length_map]at this;omega
def fit_keys{y:PV}(h:Fit (.slice [.str]) y):∃l:List ByteArray,y=.slice false (aA l)/\l.length+1<=dK y/\(dK y<=iq->Q0 l):=by
 have o:iq=1048576:=rfl;obtain⟨e,rfl,g⟩:=uA h;obtain⟨l,d,p⟩:=oM (c:=λk=>[PV.str k]) (P:=λk=>k.size+1<=iZ e) e λx a=>by
  have f:=jY a;have h:=g x a;obtain⟨q,r,rfl,i,h⟩:=h.cons;have j:=h.nil;subst j;obtain⟨s,rfl⟩:=qB i;simp only[cU,dK]at f;exact⟨s,rfl,ae⟩
 have b:e.length<=iZ e:=kH λx a=>by
  rw[d]at a;obtain⟨v,t,rfl⟩:=List.mem_map.1 a;simp only[cU,dK];omega
 have m:e=aA l:=d;refine⟨l,by rw[m],?_,λn=>?_⟩
 .simp only[dK];rw[d,List.length_map,<-d]at b;omega
 .simp only[dK]at n;rw[d,List.length_map,<-d]at b
  show l.length<=68719476736
  omega
def Sq{y:PV}(h:Fit (.slice [.int .i64,.str,.slice [.int .i64,.int .i64,.str],.bool,.slice [.str],.slice [.str],.int .i64]) y)(f:dK y<=iq):∃l:List Tx,y=.slice false (fK l)/\l.length<=1048576/\∀t∈l,sX t:=by
 have I:iq=1048576:=rfl;obtain⟨g,rfl,b⟩:=uA h;simp only[dK]at f;obtain⟨l,rfl,e⟩:=oM (c:=qJ) (P:=λt=>1<=cU (qJ t)/\sX t) g λx a=>by
  have d:=jY a;have h:=b x a;obtain⟨J,K,rfl,j,h⟩:=h.cons;obtain⟨L,M,rfl,k,h⟩:=h.cons;obtain⟨N,O,rfl,m,h⟩:=h.cons;obtain⟨Q,R,rfl,n,h⟩:=h.cons;obtain⟨S,T,rfl,o,h⟩:=h.cons;obtain⟨U,V,rfl,p,h⟩:=h.cons;obtain⟨W,X,rfl,q,h⟩:=h.cons;have r:=h.nil;subst r;obtain⟨i,rfl,_⟩:=nE j;obtain⟨s,rfl⟩:=qB k;obtain⟨u,rfl,w⟩:=OI m;obtain⟨z,rfl⟩:=X3 n;obtain⟨A,rfl,Y,B⟩:=fit_keys o;obtain⟨C,rfl,Z,D⟩:=fit_keys p;obtain⟨at',rfl,_⟩:=nE q;simp only[cU]at d;obtain⟨E,F⟩:=w ae;refine⟨⟨i,s,false,u,⟨z,false,A,false,C⟩,at'⟩,rfl,?_,E,F,B ae,D ae⟩;simp only[qJ,cU,dK];omega
 refine⟨l,rfl,?_,λt G=>(e t G).2⟩;have:=kH (xs:=l.map qJ) λx b=>by
  obtain⟨v,H,rfl⟩:=List.mem_map.1 b;exact(e v H).1
 rw[List.length_map]at this;omega
def Mz{y:PV}(h:Fit (.slice [.str,.slice [.str,.int .i64],.rows 90]) y)(w:dK y<=iq):∃l:List Pc,y=.slice false (fY l)/\l.length<=1048576/\(∀p∈l,jM p)/\∀p∈l,CW p=p:=by
 have K:iq=1048576:=rfl;obtain⟨z,rfl,b⟩:=uA h;simp only[dK]at w;obtain⟨l,rfl,g⟩:=oM (c:=cq) (P:=λp=>1<=cU (cq p)/\jM p/\CW p=p) z λx a=>by
  have i:=jY a;have h:=b x a;obtain⟨A,B,rfl,j,h⟩:=h.cons;obtain⟨C,D,rfl,k,h⟩:=h.cons;obtain⟨L,M,rfl,E,h⟩:=h.cons;have m:=h.nil;subst m;obtain⟨r,rfl⟩:=qB j;obtain⟨F,rfl,n⟩:=uA k;obtain⟨s,rfl,G,t,H⟩:=zx _ _ (Nat.le_refl _) E;simp only[cU,dK]at i G t;obtain⟨o,rfl,e⟩:=oM (c:=KS) (P:=λp=>1<=cU (KS p)/\p.name.size<=1048576) F λx a=>by
   have f:=jY a;have h:=n x a;obtain⟨A,B,rfl,j,h⟩:=h.cons;obtain⟨C,D,rfl,k,h⟩:=h.cons;have m:=h.nil;subst m;obtain⟨u,rfl⟩:=qB j;obtain⟨I,rfl,_⟩:=nE k;simp only[cU,dK]at f;exact⟨⟨u,I⟩,rfl,by simp only[KS,cU,dK];omega,by show u.size<=_;omega⟩
  have J:=kH (xs:=o.map KS) λx b=>by
   obtain⟨v,q,rfl⟩:=List.mem_map.1 b;exact(e v q).1
  rw[List.length_map]at J;refine⟨⟨r,false,o,false,s⟩,rfl,by simp only[cq,cU,dK];omega,⟨?_,?_,λx b=>(e x b).2,t ae,?_⟩,by simp only[CW,H]⟩
  .show r.size<=_;omega
  .show o.length<=_;omega
  .show dF s<=_;omega
 refine⟨l,rfl,?_,λp d=>(g p d).2.1,λp d=>(g p d).2.2⟩;have:=kH (xs:=l.map cq) λx b=>by
  obtain⟨v,q,rfl⟩:=List.mem_map.1 b;exact(g v q).1
 rw[List.length_map]at this;omega
end
section
open Go Go.Dv
abbrev AV:=Option bX
structure VX where
 n:Nat
 f:ByteArray->Option AV
def VX.set(x:VX)(k:ByteArray)(v:AV):VX:=⟨if(x.f k).isSome then x.n else x.n+1,λj=>if j=k then some v else x.f j⟩
def VX.get(x:VX)(k:ByteArray):AV:=(x.f k).getD none
def jm(a b:VX):VX:=⟨a.n,λk=>(a.f k).map λx=>if b.f k=some x then x else none⟩
structure XS where
 rd:List ByteArray
 wr:List ByteArray
 failed:Bool
def kx(k:AV)(x:XS):Bool×XS:=match k with
 |none=>(false,{x with failed:=true})
 |some v=>if lG v.s then(true,{x with rd:=ins v.s x.rd})else(false,x)
def kN(k:AV)(x:XS):Bool×XS:=match k with
 |none=>(false,{x with failed:=true})
 |some v=>if lG v.s then(true,{x with wr:=ins v.s x.wr})else(false,x)
def jF(v:bX):Bool:=if v.k=3 then(decide (v.n=0)||decide (v.n=1))&&decide (v.s=E)else !decide (v.k=0)&&me v
abbrev Yf:Cz:=⟨λ_=>V0,false,[],[]⟩
abbrev U7:MS:=⟨0,λ_=>none,0,λ_=>none,[],[],[],0⟩
def Xv(r:Rs bX):Option bX:=match r with
 | .ok v _=>some v
 | .no _ _ _ _=>none
def ir(a:Int)(l:List bX):Option bX:=if l.all jF then Xv (mD Yf a l U7)else none
mutual
def dH:aF->VX->XS->Option AV×XS
 | .mk a n s _ b,V,x=>
  if a=1 then(some (some (dt n)),x)
  else if a=2 then(some (some ⟨2,0,s⟩),x)
  else if a=3 then(some (V.get s),x)
  else match cO b V x with
   |(none,x)=>(none,x)
   |(some l,x)=>
     if a=22\/a=23\/a=24 then(if(kx (l.headD none) x).1 then some none else none,(kx (l.headD none) x).2)
     else if l.all Option.isSome then((ir a (l.map λv=>v.getD V0)).map some,x)
     else(some none,x)
def cO:List aF->VX->XS->Option (List AV)×XS
 |[],_,x=>(some [],x)
 |e::r,V,x=>match dH e V x with
  |(none,x)=>(none,x)
  |(some v,x)=>match cO r V x with
    |(none,x)=>(none,x)
    |(some l,x)=>(some (v::l),x)
end
abbrev RX:=Option VX×XS
def gG(f:Int->VX->XS->RX):Nat->Int->VX->XS->RX
 |0,_,V,x=>(some V,x)
 |n+1,i,V,x=>match f i V x with
  |(none,x)=>(none,x)
  |(some V,x)=>gG f n (i+1) V x
def iE(f:VX->XS->RX):Nat->VX->XS->RX
 |0,V,x=>(some V,x)
 |n+1,V,x=>match f V x with
  |(r,x)=>if x.failed then(none,x)else match r with
    |none=>(some V,x)
    |some W=>iE f n (jm V W) x
def pf(f g:XS->RX)(x:XS):RX:=match f x with
 |(r,x)=>if x.failed then(none,x)else match g x with
   |(q,x)=>if x.failed then(none,x)else match r,q with
     |none,none=>(none,x)
     |none,some W=>(some W,x)
     |some V,none=>(some V,x)
     |some V,some W=>(some (jm V W),x)
def oy(a b max:Int):Bool:=decide (a<b)&&(!decide ((mh b a).2=0)||decide (max<(mh b a).1))
def BP(f:AV->VX->XS->RX)(max:Int)(a b:AV)(V:VX)(x:XS):RX:=match a,b with
 |some u,some w=>if oy u.n w.n max then(none,x)else gG (λi=>f (some (dt i))) (w.n-u.n).toNat u.n V x
 |_,_=>iE (f none) max.toNat V x
def pr(r:Bool×XS)(V:VX):RX:=(if r.1 then some V else none,r.2)
mutual
def mP:aX->VX->XS->RX
 | .mk d name max a b _ c _ e,V,x=>
  if d=8 then(none,x)
  else match dH a V x with
   |(none,x)=>(none,x)
   |(some f,x)=>
     if d=1\/d=2 then(some (V.set name f),x)
     else if d=7 then(some V,x)
     else if d=4 then pr (kN f x) V
     else if d=5 then match f with
      |some u=>if u.n=1 then bp c V x else bp e V x
      |none=>pf (bp c V) (bp e V) x
     else match dH b V x with
      |(none,x)=>(none,x)
      |(some g,x)=>
        if d=3 then pr (kN f x) V
        else BP (λa V x=>bp c (V.set name a) x) max f g V x
def bp:List aX->VX->XS->RX
 |[],V,x=>(some V,x)
 |s::r,V,x=>match mP s V x with
  |(none,x)=>(none,x)
  |(some V,x)=>bp r V x
end
structure wq(x:XS):Prop where
 r:dx x.rd
 w:dx x.wr
structure my(x y:XS):Prop where
 f:y.failed=false->x.failed=false
 r:∀k∈x.rd,k∈y.rd
 w:∀k∈x.wr,k∈y.wr
 o:wq x->wq y
def my.refl(x:XS):my x x:=⟨id,λ_ h=>h,λ_ h=>h,id⟩
def my.trans{x y z:XS}(h:my x y)(k:my y z):my x z:=⟨λe=>h.f (k.f e),λj a=>k.r j (h.r j a),λj a=>k.w j (h.w j a),λe=>k.o (h.o e)⟩
def Ie(k:AV)(x:XS):my x (kx k x).2:=by
 unfold kx;cases k with
 |none=>exact⟨λh=>by simp at h,λ_ h=>h,λ_ h=>h,λh=>⟨h.r,h.w⟩⟩
 |some v=>simp only;split<;>first|exact .refl _|exact⟨id,λj h=>gM.2 (.inr h),λ_ h=>h,λh=>⟨ot h.r,h.w⟩⟩
def s6(k:AV)(x:XS):my x (kN k x).2:=by
 unfold kN;cases k with
 |none=>exact⟨λh=>by simp at h,λ_ h=>h,λ_ h=>h,λh=>⟨h.r,h.w⟩⟩
 |some v=>simp only;split<;>first|exact .refl _|exact⟨id,λ_ h=>h,λj h=>gM.2 (.inr h),λh=>⟨h.r,ot h.w⟩⟩
mutual
theorem nP(e:aF)(V:VX)(x:XS):my x (dH e V x).2:=by
 cases e with
 |mk b n s f a=>
  simp only[dH];split
  .exact .refl _
  .split
   .exact .refl _
   .split
    .exact .refl _
    .have h:=vN a V x;generalize cO a V x=r at h;obtain⟨r,y⟩:=r;cases r with
     |none=>exact h
     |some l=>
      simp only;split
      .exact h.trans (Ie _ _)
      .split<;>exact h
theorem vN(l:List aF)(V:VX)(x:XS):my x (cO l V x).2:=by
 cases l with
 |nil=>simp only[cO];exact .refl _
 |cons e r=>
  simp only[cO];have h:=nP e V x;generalize dH e V x=q at h;obtain⟨q,y⟩:=q;cases q with
  |none=>exact h
  |some v=>
   simp only;have b:=vN r V y;generalize cO r V y=a at b;obtain⟨a,z⟩:=a;cases a<;>exact h.trans b
end
def we{f:Int->VX->XS->RX}(a:∀i V x,my x (f i V x).2):∀(n:Nat) (i:Int) (V:VX) (x:XS),my x (gG f n i V x).2
 |0,i,V,x=>.refl _
 |n+1,i,V,x=>by
  simp only[gG];have h:=a i V x;generalize f i V x=q at h;obtain⟨q,y⟩:=q;cases q with
  |none=>exact h
  |some W=>exact h.trans (we a n (i+1) W y)
def w8{f:VX->XS->RX}(a:∀V x,my x (f V x).2):∀(n:Nat) (V:VX) (x:XS),my x (iE f n V x).2
 |0,V,x=>.refl _
 |n+1,V,x=>by
  simp only[iE];have h:=a V x;generalize f V x=q at h;obtain⟨q,y⟩:=q;simp only;split
  .exact h
  .cases q with
   |none=>exact h
   |some W=>exact h.trans (w8 a n _ y)
def CX{f:AV->VX->XS->RX}(c:∀a V x,my x (f a V x).2)(max:Int)(a b:AV)(V:VX)(x:XS):my x (BP f max a b V x).2:=by
 cases a with
 |none=>exact w8 (c none) _ _ _
 |some u=>
  cases b with
  |none=>exact w8 (c none) _ _ _
  |some w=>
   simp only[BP];split
   .exact .refl _
   .exact we (λi=>c _) _ _ _ _
def FV{f g:XS->RX}(b:∀x,my x (f x).2)(c:∀x,my x (g x).2)(x:XS):my x (pf f g x).2:=by
 unfold pf;have h:=b x;generalize f x=q at h;obtain⟨q,y⟩:=q;simp only;split
 .exact h
 .have a:=c y;generalize g y=p at a;obtain⟨p,z⟩:=p;simp only;split
  .exact h.trans a
  .cases q<;>cases p<;>exact h.trans a
mutual
theorem C7(s:aX)(V:VX)(x:XS):my x (mP s V x).2:=by
 cases s with
 |mk j name max a b f c g e=>
  simp only[mP];split
  .exact .refl _
  .have h:=nP a V x;generalize dH a V x=q at h;obtain⟨q,y⟩:=q;cases q with
   |none=>exact h
   |some i=>
    simp only;split
    .exact h
    .split
     .exact h
     .split
      .exact h.trans (s6 _ _)
      .split
       .cases i with
        |some u=>simp only;split<;>exact h.trans (dV _ V y)
        |none=>exact h.trans (FV (λx=>dV c V x) (λx=>dV e V x) y)
       .have d:=nP b V y;generalize dH b V y=q at d;obtain⟨q,z⟩:=q;cases q with
        |none=>exact h.trans d
        |some k=>
         simp only;split
         .exact(h.trans d).trans (s6 _ _)
         .exact(h.trans d).trans (CX (λa V x=>dV c _ x) _ _ _ _ _)
theorem dV(l:List aX)(V:VX)(x:XS):my x (bp l V x).2:=by
 cases l with
 |nil=>simp only[bp];exact .refl _
 |cons s r=>
  simp only[bp];have h:=C7 s V x;generalize mP s V x=q at h;obtain⟨q,y⟩:=q;cases q with
  |none=>exact h
  |some W=>exact h.trans (dV r W y)
end
end
section
open Go Go.Dv
def KV(v:bX):Prop:=jF v=true/\cQ v
def nS(V:VX)(a:VM):Prop:=∀k v,V.f k=some (some v)->a k=some v/\KV v
structure om(c:Cz)(x:XS):Prop where
 f:x.failed=false
 r:∀k∈x.rd,k∈c.rd
 w:∀k∈x.wr,k∈c.wr
def om.le{c:Cz}{x y:XS}(h:om c y)(l:my x y):om c x:=⟨l.f h.f,λk a=>h.r k (l.r k a),λk a=>h.w k (l.w k a)⟩
def I9(u:Nat):(Lib.decDigits u).all sU=true:=by
 have h:∀d,d<10->sU (UInt8.ofNat (48+d))=true:=by decide
 induction u using Nat.strongRecOn with
 |_ u b=>
  rw[Lib.decDigits];split
  .rename_i a;simp only[List.all_cons,List.all_nil,Bool.and_true];exact h u a
  .rename_i a;rw[List.all_append,b (u/10) ae];simp only[List.all_cons,List.all_nil,Bool.and_true,Bool.true_and];exact h (u%10) ae
def O4(n:Int):mc (qF n) sU=true:=by
 unfold mc qF Lib.itoa;split
 .simp only[List.all_cons,I9,Bool.and_true];decide
 .exact I9 _
def uJ(n:Int):jF (dt n)=true:=by simp[jF,dt,me]
def uL(b:Bool):jF (gy b)=true:=by cases b<;>simp[jF,gy]
def Dx{s:ByteArray}(h:ga s=true):jF ⟨2,0,s⟩=true:=by simp[jF,me,h]
def FL{v:bX}(h:jF v=true)(a:v.k=2):mc v.s sU=true:=by
 simp[jF,me,a,ga]at h;exact h.2.1
def Wn(x:An):Prop:=L3 (λv=>jF v=true) x
def J6{s:ByteArray}(h:mc s sU=true):Wn (lC s):=by
 unfold lC;split
 .trivial
 .exact Dx (by simp only[ga,h,Bool.true_and,cp];omega)
def F1(x:Int×Int):Wn (gi x):=by
 unfold gi;split
 .exact uJ _
 .split<;>trivial
def Hp{a b:ByteArray}{p:UInt8->Bool}(h:mc a p=true)(d:mc b p=true):mc (a++b) p=true:=by
 simp only[mc]at h d⊢;simp_all [ByteArray.data_append]
def Wj{e:Int}{a b:bX}(f:jF a=true)(g:jF b=true):Wn (dv e a b):=by
 unfold dv;split
 .split
  .exact F1 _
  .trivial
 .split
  .split
   .exact uL _
   .trivial
  .split
   .split
    .exact uL _
    .trivial
   .split
    .split
     .rename_i d;exact J6 (Hp (FL f d.1) (FL g d.2))
     .trivial
    .unfold qC;split
     .exact uL _
     .trivial
abbrev qa(a:Int):Prop:=a=22\/a=23\/a=24
abbrev CA(a:Int):Prop:=a=9\/a=18\/a=20\/a=21\/qa a
def HA{f:Int}{l:List bX}(j:¬qa f)(n:l.length=1->CA f):(∃v,∀c m,mD c f l m=.ok v m)\/∃g,∀c m,mD c f l m=.no 2 g E m:=by
 rcases l with _|⟨a,_|⟨b,_|⟨d,l⟩⟩⟩
 .exact .inr ⟨1009,λ_ _=>rfl⟩
 .have i:∀x:An,(∃v,∀m,jd x m=.ok v m)\/∃g,∀m,jd x m=.no 2 g E m:=λx=>by
   cases x with
   |ok v=>exact .inl ⟨v,λ_=>rfl⟩
   |error e=>exact .inr ⟨e,λ_=>rfl⟩
  simp only[mD];rcases n rfl with rfl|rfl|rfl|rfl|h
  .by_cases k:a.k=1
   .rcases i (gi (qY a.n))with⟨v,h⟩|⟨e,h⟩
    .exact .inl ⟨v,λc m=>by simp[gj,k,h]⟩
    .exact .inr ⟨e,λc m=>by simp[gj,k,h]⟩
   .exact .inr ⟨1009,λc m=>by simp[gj,k,bB]⟩
  .by_cases k:a.k=3
   .exact .inl ⟨gy (decide (a.n=0)),λc m=>by simp[gj,k]⟩
   .exact .inr ⟨1009,λc m=>by simp[gj,k,bB]⟩
  .by_cases k:a.k=1
   .rcases i (lC (qF a.n))with⟨v,h⟩|⟨e,h⟩
    .exact .inl ⟨v,λc m=>by simp[gj,k,h]⟩
    .exact .inr ⟨e,λc m=>by simp[gj,k,h]⟩
   .exact .inr ⟨1009,λc m=>by simp[gj,k,bB]⟩
  .by_cases k:a.k=2
   .exact .inl ⟨dt a.s.size,λc m=>by simp[gj,k]⟩
   .exact .inr ⟨1009,λc m=>by simp[gj,k,bB]⟩
  .exact absurd h j
 .simp only[mD];cases dv f a b with
  |ok v=>exact .inl ⟨v,λ_ _=>rfl⟩
  |error e=>exact .inr ⟨e,λ_ _=>rfl⟩
 .exact .inr ⟨1009,λ_ _=>rfl⟩
def YE{f:Int}{l:List bX}(n:¬qa f)(o:l.length=1->CA f)(g:∀v∈l,KV v){c:Cz}{m j:MS}{v:bX}(e:mD c f l m=.ok v j):jF v=true:=by
 have i:∀{x:An},Wn x->jd x m=.ok v j->jF v=true:=λ{x} h e=>by
  cases x with
  |ok w=>simp only[jd,Rs.ok.injEq]at e;rw[<-e.1];exact h
  |error d=>simp[jd,bB]at e
 rcases l with _|⟨a,_|⟨b,_|⟨d,l⟩⟩⟩
 .simp[mD,bB]at e
 .simp only[mD]at e;have p:=g a aB;rcases o rfl with rfl|rfl|rfl|rfl|h
  .by_cases k:a.k=1
   .simp[gj,k]at e;exact i (F1 _) e
   .simp[gj,k,bB]at e
  .by_cases k:a.k=3
   .simp[gj,k]at e;rw[<-e.1];exact uL _
   .simp[gj,k,bB]at e
  .by_cases k:a.k=1
   .simp[gj,k]at e;exact i (J6 (O4 _)) e
   .simp[gj,k,bB]at e
  .by_cases k:a.k=2
   .simp[gj,k]at e;rw[<-e.1];exact uJ _
   .simp[gj,k,bB]at e
  .exact absurd h n
 .simp only[mD]at e;exact i (Wj (g a aB).1 (g b aB).1) e
 .simp[mD,bB]at e
mutual
def MN:aF->Prop
 | .mk a n s _ b=>(a=2->ga s=true)/\(b.length=1->CA a)/\(qa a->b.length=1)/\Dz b
def Dz:List aF->Prop
 |[]=>True
 |e::r=>MN e/\Dz r
end
def Kn:List AV->List bX->Prop
 |[],[]=>True
 |a::l,v::r=>(∀w,a=some w->w=v/\KV v)/\Kn l r
 |_,_=>False
def Kn.len:∀{l:List AV} {r:List bX},Kn l r->l.length=r.length
 |[],[],_=>rfl
 |a::l,v::r,h=>by simp[Kn.len h.2]
 |[],_::_,h=>h.elim
 |_::_,[],h=>h.elim
def Kn.all:∀{l:List AV} {r:List bX},Kn l r->l.all Option.isSome=true->l.map (λv=>v.getD V0)=r/\∀v∈r,KV v
 |[],[],_,_=>⟨rfl,aB⟩
 |a::l,v::r,h,b=>by
  simp only[List.all_cons,aO]at b;obtain⟨d,e⟩:=Kn.all h.2 b.2;obtain⟨w,rfl⟩:=py.1 b.1;obtain⟨rfl,f⟩:=h.1 w rfl;exact⟨by simp[d],by simpa using⟨f,e⟩⟩
 |[],_::_,h,_=>h.elim
 |_::_,[],h,_=>h.elim
def YO(r:Option AV)(b:VM):Rs bX->Prop
 | .ok v m=>m.vars=b/\∃a,r=some a/\∀w,a=some w->w=v/\KV v
 | .no d _ _ _=>d≠3
def Z9(r:Option (List AV))(n:Nat)(b:VM):Rs (List bX)->Prop
 | .ok l m=>m.vars=b/\l.length=n/\∃a,r=some a/\Kn a l
 | .no d _ _ _=>d≠3
section
variable{c:Cz}
def Ou{x:An}{m:MS}{a:VM}(b:m.vars=a):YO (some none) a (jd x m):=by
 cases x with
 |ok v=>exact⟨b,none,rfl,λw h=>by cases h⟩
 |error e=>show(2:Int)≠3;decide
def Wv(n:c.all=false){e:Int}(q:qa e){a:bX}{k:AV}{y:XS}{m:MS}{b:VM}(j:m.vars=b)(o:∀w,k=some w->w=a/\KV a)(f:om c (kx k y).2):YO (if(kx k y).1 then some none else none) b (gj c e a m):=by
 cases k with
 |none=>have:=f.f;simp[kx]at this
 |some w=>
  obtain⟨rfl,r⟩:=o w rfl;have p:e≠9:=ae;have g:e≠18:=ae;have h:e≠20:=ae;have i:e≠21:=ae;unfold gj;rw[an p,an g,an h,an i];by_cases l:w.k=2
  .rw[aq l];unfold fB;by_cases d:lG w.s=true
   .simp only[kx,d,bZ]at f⊢;cases m.own w.s with
    |some v=>exact Ou j
    |none=>
     have:w.s∈c.rd:=f.r _ (gM.2 (.inl rfl));simp only[n,gp.2 this,Bool.not_true,Bool.and_false,Bool.false_eq_true,cy];exact Ou j
   .simp only[kx,d,cy]
    show(2:Int)≠3
    decide
  .rw[an l]
   show(2:Int)≠3
   decide
mutual
theorem zY(N:c.all=false)(O:∀k,cQ (c.g k))(e:aF)(G:e.ok)(r:MN e)(V:VX)(x:XS)(m:MS)(B:dx m.reads/\(∀k v,m.vars k=some v->cQ v)/\∀k v,m.own k=some v->cQ v)(P:nS V m.vars)(d:om c (dH e V x).2):YO (dH e V x).1 m.vars (cG c e m):=by
 cases e with
 |mk j n s f o=>
  have g:=tw c O (.mk j n s f o) G m B.1 B.2.1 B.2.2;simp only[aF.ok]at G;simp only[MN]at r;obtain⟨T,U,W,X⟩:=r;simp only[dH]at d⊢;simp only[cG]at g⊢;by_cases H:j=1
  .rw[aq H]at g⊢;simp only[H,bZ];exact⟨rfl,_,rfl,λw h=>by cases h;exact⟨rfl,uJ n,g.1⟩⟩
  simp only[H,cy]at d g⊢;by_cases C:j=2
  .rw[aq C]at g⊢;simp only[C,bZ];exact⟨rfl,_,rfl,λw h=>by cases h;exact⟨rfl,Dx (T C),g.1⟩⟩
  simp only[C,cy]at d g⊢;by_cases Q:j=3
  .simp only[Q,bZ];cases e:m.vars s with
   |none=>show(2:Int)≠3;decide
   |some v=>
     refine⟨rfl,_,rfl,λw h=>?_⟩;have Y:V.f s=some (some w):=by
      simp only[VX.get]at h;cases u:V.f s with
      |none=>rw[u]at h;cases h
      |some a=>rw[u]at h;simp only[il]at h;rw[h]
     obtain⟨R,Z⟩:=P s w Y;rw[e]at R;cases R;exact⟨rfl,Z⟩
  simp only[Q,cy]at d g⊢;have z:my (cO o V x).2 (match cO o V x with
   |(none,x)=>((none:Option AV),x)
   |(some l,x)=>
     if j=22\/j=23\/j=24 then(if(kx (l.headD none) x).1 then some none else none,(kx (l.headD none) x).2)
     else if l.all Option.isSome then((ir j (l.map λv:AV=>v.getD V0)).map some,x)
     else(some none,x)).2:=by
   generalize cO o V x=q;obtain⟨q,y⟩:=q;cases q with
   |none=>exact .refl _
   |some l=>
     simp only;split
     .exact Ie _ _
     .split<;>exact .refl _
  have D:=Ec N O o G.2.2.2 X V x m B P (d.le z);clear z;cases u:dX c o m with
  |no st S x0 t=>rw[u]at D;exact D
  |ok E t=>
   rw[u]at D g;obtain⟨I,i2,l,J,F⟩:=D;generalize cO o V x=q at J d;obtain⟨q,y⟩:=q;simp only at J;subst J;simp only at d⊢;simp only[Rs.bind]at g⊢;by_cases p:qa j
   · simp only[p,bZ]at d⊢;have K:=W p;rw[<-i2]at K;rcases E with _|⟨a,_|⟨b,E⟩⟩
     .simp at K
     .rcases l with _|⟨k,_|⟨k2,l⟩⟩
      .exact F.elim
      .exact Wv N p I F.1 d
      .exact F.2.elim
     .simp at K
   · simp only[p,cy]at d⊢;have i:E.length=1->CA j:=λh=>U ae
     by_cases L:l.all Option.isSome=true
     .simp only[L,bZ]at d⊢;obtain⟨k1,k2⟩:=F.all L;rw[k1];rcases HA p i with⟨v,h⟩|⟨S,h⟩
      .have M:=YE p i k2 (h c t);rw[h c t]at g⊢;refine⟨I,some v,?_,λw r=>?_⟩
       .have A:E.all jF=true:=List.all_eq_true.2 λv M=>(k2 v M).1
        simp only[ir,A,bZ,h,Xv,Option.map_some]
       .cases r;exact⟨rfl,M,g.1⟩
      .rw[h c t]
       show(2:Int)≠3
       decide
     .simp only[L,cy]at d⊢;rcases HA p i with⟨v,h⟩|⟨S,h⟩
      .rw[h c t];exact⟨I,none,rfl,λw r=>by cases r⟩
      .rw[h c t]
       show(2:Int)≠3
       decide
theorem Ec(A:c.all=false)(o:∀k,cQ (c.g k))(l:List aF)(j:fQ l)(s:Dz l)(V:VX)(x:XS)(m:MS)(g:dx m.reads/\(∀k v,m.vars k=some v->cQ v)/\∀k v,m.own k=some v->cQ v)(B:nS V m.vars)(i:om c (cO l V x).2):Z9 (cO l V x).1 l.length m.vars (dX c l m):=by
 cases l with
 |nil=>simp only[cO,dX];exact⟨rfl,rfl,[],rfl,trivial⟩
 |cons e r=>
  simp only[fQ]at j;simp only[Dz]at s;simp only[cO]at i⊢;simp only[dX];have d:my (dH e V x).2 (match dH e V x with
   |(none,x)=>((none:Option (List AV)),x)
   |(some v,x)=>match cO r V x with
     |(none,x)=>(none,x)
     |(some l,x)=>(some (v::l),x)).2:=by
   generalize dH e V x=q;obtain⟨q,y⟩:=q;cases q with
   |none=>exact .refl _
   |some v=>
     simp only;have h:=vN r V y;generalize cO r V y=p at h;obtain⟨p,z⟩:=p;cases p<;>exact h
  have n:=zY A o e j.1 s.1 V x m g B (i.le d);clear d;have C:=tw c o e j.1 m g.1 g.2.1 g.2.2;cases D:cG c e m with
  |no H I t E=>rw[D]at n;exact n
  |ok v E=>
   rw[D]at n C;obtain⟨P,a,u,J⟩:=n;obtain⟨_,F,rfl,K,Q⟩:=C;generalize dH e V x=q at u i;obtain⟨q,y⟩:=q;simp only at u;subst u;simp only at i⊢;simp only[Rs.bind];have d:my (cO r V y).2 (match cO r V y with
     |(none,x)=>((none:Option (List AV)),x)
     |(some l,x)=>(some (a::l),x)).2:=by
     generalize cO r V y=p;obtain⟨p,z⟩:=p;cases p<;>exact .refl _
   have f:=Ec A o r j.2 s.2 V y {m with reads:=F} ⟨K,g.2⟩ B (i.le d);clear d;cases G:dX c r {m with reads:=F}with
   |no H I t E=>rw[G]at f;exact f
   |ok l L=>
     rw[G]at f;obtain⟨M,N,b,w,O⟩:=f;generalize cO r V y=p at w;obtain⟨p,z⟩:=p;simp only at w;subst w;exact⟨M,by simp[N],a::b,rfl,J,O⟩
end
end
end
section
open Go Go.Dv
def HD(v:bX)(c:v.s.size<=1048576):PS tb 241 [.agg (gB v)] (.bool (jF v)):=by
 have b:=CH v c;refine bM (af:=SA) rfl rfl ?_;unfold SA;dsimp only[List.map,aQ,aj,gB];dsimp only[gB]at b;unfold jF;by_cases k3:v.k=3
 .exact gP (aZ k3) b k0
 .by_cases k0:v.k=0
  .repeat'(first|exact b|(simp(disch:=omega) only[go_sem,seval,reduceCtorEq,k3,aZ k0])|with_reducible exact Ev.mk|apply gb|((first|apply b5|apply bO)<;>intro a d<;>(simp(disch:=omega) only[go_sem,seval,reduceCtorEq,k3,aZ k0,a])<;>clear a))
  .repeat'(first|exact b|(simp(disch:=omega) only[go_sem,seval,reduceCtorEq,k3,k0])|with_reducible exact Ev.mk|apply gb|((first|apply b5|apply bO)<;>intro a d<;>(simp(disch:=omega) only[go_sem,seval,reduceCtorEq,k3,k0,a])<;>clear a))
def D2(a:Int):Int:=if a<1\/27<a then-1 else if a<=3\/25<=a then 0 else if a=9\/a=18\/20<=a then 1 else 2
def H0(b:Int):PS tb 264 [.int .i64 b] (.int .i64 (D2 b)):=by
 refine bM (af:=Ky) rfl rfl ?_;unfold Ky;dsimp only[List.map,aQ,aj];unfold D2;repeat'(first|(simp(disch:=omega) only[go_sem,seval,reduceCtorEq])|with_reducible exact Ev.mk|((first|apply b5|apply bO)<;>intro a c<;>(simp(disch:=omega) only[go_sem,seval,reduceCtorEq,a])<;>clear a))
 all_goals(simp only[aw,PV.int.injEq,true_and];(repeat' split)<;>omega)
def Ch:PS tb 247 [.agg [.int .i64 3,.int .i64 0,.str ⟨#[97]⟩,.slice true []],.int .i64 2] (.int .i64 0):=⟨30,jK⟩
def MU:PS tb 247 [.agg [.int .i64 3,.int .i64 0,.str ⟨#[98]⟩,.slice true []],.int .i64 2] (.int .i64 0):=⟨30,jK⟩
abbrev vA:aF:=.mk 3 0 ⟨#[97]⟩ true []
abbrev vB:aF:=.mk 3 0 ⟨#[98]⟩ true []
abbrev sj(a:Int)(b:List aF):aF:=.mk a 0 E false b
structure VR(op:Int)(xs:List aF):Prop where
 a:xs=[]\/xs=[vA]\/xs=[vA,vB]
 n:(xs.length:Int)=D2 op
 o1:¬op=1
 o2:¬op=2
 o3:¬op=3
def OU{d:Int}{c:List aF}(h:VR d c):PS tb 255 [.agg [.int .i64 d,.int .i64 0,.str ⟨#[]⟩,.slice false (aJ c)],.int .i64 1] (.int .i64 0):=by
 have b:=H0 d;have i:=h.n;have a:c.length=0\/c.length=1\/c.length=2:=by rcases h.a with rfl|rfl|rfl<;>simp
 have e:=h.o1;have f:=h.o2;have g:=h.o3;rw[<-i]at b;refine bM (af:=IQ) rfl rfl ?_;unfold IQ;dsimp only[List.map,aQ,aj];rcases a with a|a|a
 .rw[a]at b;exact gP (dM @aD a e f g) b k0
 .rw[a]at b;exact gP (dM @aD a e f g) b k0
 .rw[a]at b;exact gP (dM @aD a e f g) b k0
def Nk{e:Int}{a:List aF}(h:VR e a):PS tb 230 [.agg [.int .i64 e,.int .i64 0,.str ⟨#[]⟩,.slice false (aJ a)]] (.int .i64 0):=by
 have d:=OU h;have k:PS tb 247 [.agg [.int .i64 e,.int .i64 0,.str ⟨#[]⟩,.slice false (aJ a)],.int .i64 1] (.int .i64 0):=by
  have p:a.length<=2:=by rcases h.a with rfl|rfl|rfl<;>simp
  have l:∀i (b:i<a.length),(aJ a)[i]?=some [.int .i64 a[i].op,.int .i64 a[i].n,.str a[i].s,.slice a[i].f (aJ a[i].xs)]/\PS tb 247 [.agg [.int .i64 a[i].op,.int .i64 a[i].n,.str a[i].s,.slice a[i].f (aJ a[i].xs)],.int .i64 2] (.int .i64 0):=λi b=>by
   refine⟨by rw[jh a i b,aF.pM],?_⟩;rcases h.a with rfl|rfl|rfl
   .simp at b
   .obtain rfl:i=0:=by simp at b;omega
    exact Ch
   .rcases i with _|_|i
    .exact Ch
    .exact MU
    .simp at b;omega
  refine bM (af:=K5) rfl rfl ?_;unfold K5;dsimp only[List.map,aQ,aj];refine gP @aD d (k1 ?_);refine bU (λj f=>∃(i g:Nat),i+j=a.length/\f=⟨[(1,.p (.int .i64 1)),(16,.p (.slice false (aJ a))),(17,.p (.int .i64 a.length)),(18,.p (.int .i64 i))],[],g,[0]⟩) ?_ a.length _ ⟨0,1,ae,rfl⟩;rintro j f ⟨i,g,b,rfl⟩;refine bq Df.eq_1 ?_;rcases cK i a.length with c|c
  .have d:(i:Int)<a.length:=ae;have m:(0:Int)<=i:=ae;obtain⟨n,o⟩:=l i c;refine gP (eY d m @aD n) o (k1 ?_);exact LI.next (m':=j-1) ae ⟨i+1,0,ae,rfl⟩
  .have d:¬(i:Int)<a.length:=ae;exact gN d k0
 refine bM (af:=Ja) rfl rfl ?_;unfold Ja;dsimp only[List.map,aQ,aj];exact gP trivial k k0
end
end Go.Dv.Tryz
