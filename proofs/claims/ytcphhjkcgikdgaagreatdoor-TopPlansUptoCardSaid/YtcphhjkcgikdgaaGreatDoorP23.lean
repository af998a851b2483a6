/- Lemmas for the law of this claim. -/
import Derived.Test.YtcphhjkcgikdgaaGreatDoorP21
import Derived.Shelf.Spec.SlicesInsertGrow
import Derived.Shelf.SlGeneric
set_option linter.all false
namespace Go.Dv
section
open Go.RowKit Go.Shelf Go.Proofs Go.Lib
def nW{P:Program}{f:FuncId}{a:Func}(h:P.funcs[f]?=some a)(b:(a.name== "runtime.NumGoroutine")=false)(c:a.body.isNone=false):fx P f:=⟨a,h,b,c⟩
structure sG(P:Program)(ρ:Ren)(k bytes:Nat):Prop where
 mixed:P.follows .mixedOrders=true
 f22:Bears P (ρ.f 22) (Body2.n22 ρ)
 ov:∀(w:World) (a b:Value),(Extern.SlicesOverlaps.overlaps #[ρ.t 24,ρ.t 24] #[ρ.t 4] #[a,b]).run P w=.ok (.bool false) w->(callFunc (ρ.f 29) #[a,b]).run P w=.ok (.value (.bool false)) w
 t0:P.underlying (ρ.t 0)=some (TypeDesc.tuple #[])
 a0:∀w,(isAgg (ρ.t 0)).run P w=.ok false w
 z0:∀w,(Go.sizeOf (ρ.t 0)).run P w=.ok 1 w
 v0:∀w,(zeroValue (ρ.t 0)).run P w=.ok (Value.tuple #[]) w
 t3:P.underlying (ρ.t 3)=some (TypeDesc.int IntKind.i64)
 a3:∀w,(isAgg (ρ.t 3)).run P w=.ok false w
 z3:∀w,(Go.sizeOf (ρ.t 3)).run P w=.ok 1 w
 v3:∀w,(zeroValue (ρ.t 3)).run P w=.ok (Value.int IntKind.i64 0) w
 t4:P.underlying (ρ.t 4)=some (TypeDesc.bool)
 a4:∀w,(isAgg (ρ.t 4)).run P w=.ok false w
 z4:∀w,(Go.sizeOf (ρ.t 4)).run P w=.ok 1 w
 v4:∀w,(zeroValue (ρ.t 4)).run P w=.ok (Value.bool false) w
 t24:P.underlying (ρ.t 24)=some (TypeDesc.slice (ρ.t 9))
 a24:∀w,(isAgg (ρ.t 24)).run P w=.ok false w
 z24:∀w,(Go.sizeOf (ρ.t 24)).run P w=.ok 1 w
 v24:∀w,(zeroValue (ρ.t 24)).run P w=.ok (Value.slice none 0 0) w
 i9:∃i z,P.info? (ρ.t 9)=some i/\i.zero=some z/\i.size=k/\i.bytes=bytes/\z.cells.size=k
 hk:0<k
 Sb:0<bytes
section
variable{P:Program}{ρ:Ren}{k bytes:Nat}
def sG.z9(L:sG P ρ k bytes):∀w,(Go.sizeOf (ρ.t 9)).run P w=.ok k w:=by
 obtain⟨i,z,a,_,b,_⟩:=L.i9;intro w;simp[sizeOf,typeInfo,a,b]
def xN(w:World)(i J e:TypeId)(C:P.underlying i=some (.slice e))(c:Nat)(D:∀w,(Go.sizeOf e).run P w=.ok c w)
  (f r b E p K q L:Nat)(j:f≠b){d:Array Value}{F:TypeId}{s:Nat×Nat}(M:w.heap[f]?=some (.cells d F s)){g:Array Value}{T:TypeId}(G:w.heap[b]?=some (.cells g T (0,0)))(l:g.size≠0)(h:d.size≠0):
  (Extern.SlicesOverlaps.overlaps #[i,i] #[J] #[.slice (some ⟨f,r,none⟩) p K,.slice (some ⟨b,E,none⟩) q L]).run P w=.ok (.bool false) w:=by
 have u:(f !=b)=true:=by simpa using j
 have m:(f==b)=false:=by simpa using j
 have v:w.shape? f=some (F,d.size):=by simp[World.shape?,M]
 have x:w.shape? b=some (T,g.size):=by simp[World.shape?,G]
 have y:∀o,w.frozen? ⟨b,o,none⟩=false:=λo=>fJ G
 change Sem.run P (α:=Value) (do
  let some t:=(#[i,i]:Array TypeId)[0]?|stuck "slices.overlaps: no parameter types"
  let .slice n<-underlying t|stuck "slices.overlaps: slice type expected"
  let c<-sizeOf n
  match(some (⟨f,r,none⟩:Addr):Option Addr),(some (⟨b,E,none⟩:Addr):Option Addr)with
  |some a,some b=>
   if p=0\/q=0\/c=0 then pure (Value.bool false)
   else if a.block !=b.block&&(<-frozen a)&&(<-frozen b)then unsupported .addressObserved
   else do
    if a.block !=b.block then do
     noView a;noView b
     if<-mayBeOne a b then return Value.bool ((<-choose (.extern "sameAddr.stringBytes" 2))==1)
    pure (Value.bool (a.block==b.block&&a.off<b.off+q*c&&b.off<a.off+p*c))
  |_,_=>pure (Value.bool false)) w=_
 by_cases H:p=0\/q=0\/c=0
 .simp[run_underlying C,D,H]
 .generalize N:g.size=I at*;generalize O:d.size=z at*;cases I with
  |zero=>exact absurd rfl l
  |succ I=>
   cases z with
   |zero=>exact absurd rfl h
   |succ z=>
   cases A:w.frozen? ⟨f,r,none⟩<;>cases B:w.frozen? ⟨f,z+1,none⟩<;>
    simp[run_underlying C,D,H,u,m,frozen,noView,viewAt,mayBeOne,stringish,shape,Sem.run,v,x,A,B,y]
def oT{W:World}{m q r e:TypeId}(s:P.underlying m=some (.slice e))(t:∀w,(Go.sizeOf e).run P w=.ok k w){b o dl u:Nat}{arr:Array Value}{T:TypeId}(x:W.heap[b]?=some (.cells arr T (0,0)))
  {d so sl f:Nat}{sarr:Array Value}{g:TypeId}{h:Nat×Nat}(i:W.heap[d]?=some (.cells sarr g h))(a:List Value){n:Nat}(y:n=Nat.min sl dl)(l:a.length=n*k)(z:∀j v,a[j]?=some v->sarr[so+j]?=some v)
  (A:∀v∈a,v.oneCell'=true)(p:o+a.length<=arr.size):
  (Builtin.copy_ #[m,q] r #[.slice (some ⟨b,o,none⟩) dl u,.slice (some ⟨d,so,none⟩) sl f]).run P W=.ok (goInt n) (cu W b (cA arr o a) T (0,0)):=by
 have B:(Builtin.firstCells k n (.slice (some ⟨d,so,none⟩) sl f)).run P W=.ok a.toArray W:=
  run_firstCells_some W k n ⟨d,so,none⟩ sl f a l λj v C=>by rw[hM];exact bT i (z j v C)
 have c:=j1 (P:=P) (b:=b) (off:=o) (T:=T) a 0 W arr x A ae;simp only[pO]at c;simp[Builtin.copy_,run_underlying s,Builtin.lenOf,t,<-y,B,c]
set_option maxHeartbeats 4000000 in
set_option maxRecDepth 100000 in
theorem AM(L:sG P ρ k bytes){w w':World}{base:Option Addr}{n c m:Nat}{ya:Option Addr}{d:Nat}{v':Value}(hm:0<m)(hnc:n<=c)
  (hrun:(Builtin.append_ #[(ρ.t 24),(ρ.t 24)] (ρ.t 24) #[.slice base n c,.slice ya m d]).run P w=.ok v' w'):
  Calls P (ρ.f 22) #[.slice base n c,.int .i64 n,.slice ya m d] w λe w''=>e=.returned v'/\w''=w':=by
 have t0:=L.t0;have a0:=L.a0;have z0:=L.z0;have v0:=L.v0;have t3:=L.t3;have a3:=L.a3;have z3:=L.z3;have v3:=L.v3;have t4:=L.t4;have a4:=L.a4;have z4:=L.z4;have v4:=L.v4;have z9:=L.z9;have t24:=L.t24;have a24:=L.a24;have z24:=L.z24;have v24:=L.v24;have u0:=run_underlying L.t0;have u3:=run_underlying L.t3;have u4:=run_underlying L.t4;have u24:=run_underlying L.t24;have mixed:=L.mixed;have hz1:¬((m:Int)=0):=ae;obtain⟨nm,_,b⟩:=L.f22
 go_enter b,Body2.n22_ntmps ρ
 cases base with
 |none=>
  go_wp2_with (at_builtin;refine Lib.wpList_append_run _ rfl _ _ _ _ rfl _ _ rfl rfl _ _ hrun ?_)
  all_goals(go_ret;exact⟨rfl,rfl⟩)
 |some a=>
  obtain⟨ab,ao,asp⟩:=a
  go_wp2_with (at_builtin;refine Lib.wpList_append_run _ rfl _ _ _ _ rfl _ _ rfl rfl _ _ hrun ?_)
  all_goals(go_ret;exact⟨rfl,rfl⟩)
set_option maxHeartbeats 4000000 in
set_option maxRecDepth 100000 in
theorem vC(L:sG P ρ k bytes){w:World}{b off n c i vb voff m vc:Nat}{arr a:Array Value}{T h:TypeId}{f:Nat×Nat}(hi:i<n)(hm:0<m)(hroom:n+m<=c)(hnm:n+m<=9223372036854775807)
  (hb:w.heap[b]?=some (.cells arr T (0,0)))(hs:off+(n+m)*k<=arr.size)(hvb:w.heap[vb]?=some (.cells a h f))(hne:vb≠b)(cs vs:List Value)(hcl:cs.length=(n-i)*k)(hvl:vs.length=m*k)
  (hcs:∀j v,cs[j]?=some v->arr[off+i*k+j]?=some v)(hvs:∀j v,vs[j]?=some v->a[voff+j]?=some v)(h1c:∀v∈cs,v.oneCell'=true)(h1v:∀v∈vs,v.oneCell'=true):
  Calls P (ρ.f 22) #[.slice (some ⟨b,off,none⟩) n c,.int .i64 i,.slice (some ⟨vb,voff,none⟩) m vc] w λe w'=>
   e=.returned (.slice (some ⟨b,off,none⟩) (n+m) c)/\w'=cu w.drew b (cA (cA arr (off+(i+m)*k) cs) (off+i*k) vs) T (0,0):=by
 have t0:=L.t0;have a0:=L.a0;have z0:=L.z0;have v0:=L.v0;have t3:=L.t3;have a3:=L.a3;have z3:=L.z3;have v3:=L.v3;have t4:=L.t4;have a4:=L.a4;have z4:=L.z4;have v4:=L.v4;have z9:=L.z9;have t24:=L.t24;have a24:=L.a24;have z24:=L.z24;have v24:=L.v24;have u0:=run_underlying L.t0;have u3:=run_underlying L.t3;have u4:=run_underlying L.t4;have u24:=run_underlying L.t24;have hz1:¬((m:Int)=0):=ae;have hz2:¬((i:Int)=(n:Int)):=ae;have hk:=L.hk;have hpos:arr.size≠0:=by
  have:1*k<=(n+m)*k:=c7 _ ae;omega
 have d:a.size≠0:=by
  have h0:0<vs.length:=by rw[hvl];exact Nat.mul_pos hm hk
  have:=Gr (hvs 0 _ (List.getElem?_eq_getElem h0));omega
 have hov:∀lb cb,(callFunc (ρ.f 29) #[.slice (some ⟨vb,voff,none⟩) m vc,.slice (some ⟨b,off+(i+m)*k,none⟩) lb cb]).run P w=.ok (.value (.bool false)) w:=λlb cb=>by
  exact L.ov w _ _ (xN w (ρ.t 24) (ρ.t 4) (ρ.t 9) L.t24 k L.z9 vb voff b (off+(i+m)*k) m vc lb cb hne hvb hb hpos d)
 have mixed:=L.mixed;have hw1:IntKind.i64.wrap ((i:Int)+(m:Int))=(i:Int)+(m:Int):=by rw[IntKind.wrap_i64];omega
 have hb1:(0:Int)<=(i:Int)+(m:Int):=ae;have hin:i<=n:=ae;have htn:((i:Int)+(m:Int)).toNat=i+m:=ae;have hb2:¬(c=i+m):=ae;have hb3:(i:Int)<=(n:Int)+(m:Int):=ae;have hb4:¬(c=i):=ae;have hlt:=aM hb;have e1:n-i+(i+m)=n+m:=ae;have e2:(n-i)*k+(i+m)*k=(n+m)*k:=by rw[<-dq,e1]
 have e3:i*k+m*k<=(n+m)*k:=by rw[<-dq];exact c7 _ ae
 have hcp1:∀ty dc sc,(Builtin.copy_ #[(ρ.t 24),(ρ.t 24)] ty #[.slice (some ⟨b,off+(i+m)*k,none⟩) (n+m-(i+m)) dc,.slice (some ⟨b,off+i*k,none⟩) (n+m-i) sc]).run P w.drew=.ok (goInt ((n-i:Nat):Int)) (cu w.drew b (cA arr (off+(i+m)*k) cs) T (0,0)):=λty dc sc=>
  oT (W:=w.drew) (dl:=n+m-(i+m)) (sl:=n+m-i) (n:=n-i) (o:=off+(i+m)*k) (so:=off+i*k) L.t24 L.z9 (by exact hb) (by exact hb) cs (by show n-i=min _ _;omega) hcl hcs h1c (by rw[hcl];omega)
 obtain⟨A1,hA1⟩:∃A1,A1=cA arr (off+(i+m)*k) cs:=⟨_,rfl⟩;have hs1:A1.size=arr.size:=by rw[hA1,bW]
 have hcp2:∀(W:World),W.heap=(cu w.drew b A1 T (0,0)).heap->∀ty dc,(Builtin.copy_ #[(ρ.t 24),(ρ.t 24)] ty #[.slice (some ⟨b,off+i*k,none⟩) (n+m-i) dc,.slice (some ⟨vb,voff,none⟩) m vc]).run P W=.ok (goInt m) (cu W b (cA A1 (off+i*k) vs) T (0,0)):=λW hW ty dc=>
  oT (W:=W) (dl:=n+m-i) (sl:=m) (n:=m) (o:=off+i*k) L.t24 L.z9 (arr:=A1) (T:=T) (by rw[hW,dI,aq ⟨rfl,hlt⟩]) (by rw[hW,dI,an (λe=>hne e.1.symm)];exact hvb) vs (by show m=min _ _;omega) hvl hvs h1v (by rw[hvl,hs1];omega)
 rw[<-hA1]at hcp1;clear hs hpos;obtain⟨nm,_,g⟩:=L.f22
 go_enter g,Body2.n22_ntmps ρ
 go_wp2_with (simp only[hov])
 go_region_law_o (refine step_copy_runI rfl _ _ (ρ.t 24) (ρ.t 24) rfl _ _ (by simp[Act.eval,Act.put]) (by simp[Act.eval,Act.put]) (hcp1 _ _ _) ?_)
 go_wp2_with (at_builtin;refine wpList_copy_runI _ rfl _ _ (ρ.t 24) (ρ.t 24) rfl _ _ rfl rfl (hcp2 _ rfl _ _) ?_)
 go_ret
 first|exact⟨rfl,rfl⟩|exact⟨rfl,by rw[mQ]⟩|exact⟨rfl,by rw[mQ,hA1]⟩
def Ep(w:World)(A a:Array Value)(T b:TypeId)(c:Nat×Nat):cu (w.alloc (.cells A T)) w.heap.size a b c=w.alloc (.cells a b c):=by
 simp only[cu,World.alloc];congr 1;apply D4;intro i;by_cases h:w.heap.size=i
 .subst h;simp
 .rw[kL h,HV,HV,an (λe=>h e.symm),an (λe=>h e.symm)]
def qc(z:Value)(k n i m G:Nat)(a b:List Value):Array Value:=
 cA (cA ((a.take (i*k)).toArray++Builtin.zeroCells z.cells (n+m-i)++Builtin.zeroCells z.cells (G-(n+m))) (i*k) b) ((i+m)*k) (a.drop (i*k))
set_option maxHeartbeats 4000000 in
set_option maxRecDepth 100000 in
theorem yP(L:sG P ρ k bytes){w:World}{b off n c i vb voff m vc:Nat}{arr a:Array Value}{T l:TypeId}{d f:Nat×Nat}{i0:TypeInfo}{z:Value}(hi0:P.info? (ρ.t 9)=some i0)(hz0:i0.zero=some z)(hzs:i0.size=k)(hzb:i0.bytes=bytes)(hzc:z.cells.size=k)
  (hi:i<n)(hm:0<m)(hnc:n<=c)(hroom:c<n+m)(hbig:(n+m)*bytes<=ak)(hbig2:n+m<=ak)
  (hb:w.heap[b]?=some (.cells arr T d))(hvb:w.heap[vb]?=some (.cells a l f))(cs vs:List Value)(hcl:cs.length=n*k)(hvl:vs.length=m*k)
  (hcs:∀j v,cs[j]?=some v->arr[off+j]?=some v)(hvs:∀j v,vs[j]?=some v->a[voff+j]?=some v)(h1c:∀v∈cs,v.oneCell'=true)(h1v:∀v∈vs,v.oneCell'=true):
  Calls P (ρ.f 22) #[.slice (some ⟨b,off,none⟩) n c,.int .i64 i,.slice (some ⟨vb,voff,none⟩) m vc] w λe w'=>
    e=.returned (.slice (some ⟨w.heap.size,0,none⟩) (n+m) (grownCap w (n+m) c (ρ.t 9)))/\
    w'=w.drew.drew.alloc (.cells (qc z k n i m (grownCap w (n+m) c (ρ.t 9)) cs vs) (ρ.t 9)):=by
 have t0:=L.t0;have a0:=L.a0;have z0:=L.z0;have v0:=L.v0;have t3:=L.t3;have a3:=L.a3;have z3:=L.z3;have v3:=L.v3;have t4:=L.t4;have a4:=L.a4;have z4:=L.z4;have v4:=L.v4;have z9:=L.z9;have t24:=L.t24;have a24:=L.a24;have z24:=L.z24;have v24:=L.v24;have u0:=run_underlying L.t0;have u3:=run_underlying L.t3;have u4:=run_underlying L.t4;have u24:=run_underlying L.t24;have mixed:=L.mixed;have hk:=L.hk;have Sb:=L.Sb;unfold ak at hbig hbig2;have hz1:¬((m:Int)=0):=ae;have hz2:¬((i:Int)=(n:Int)):=ae;have hz3:(c:Int)<(n:Int)+(m:Int):=ae;have hbw:=aM hb;have hvw:=aM hvb;have hkk:(n:Int)+(m:Int)-(i:Int)=((n+m-i:Nat):Int):=ae;have hik:i+(n+m-i)=n+m:=ae;have hin:i*k<=n*k:=c7 _ ae;have htl:(cs.take (i*k)).length=i*k:=by rw[List.length_take,hcl];omega
 have hdl:(cs.drop (i*k)).length=(n-i)*k:=by rw[List.length_drop,hcl,GQ]
 have hold:(Builtin.firstCells i0.size i (.slice (some ⟨b,off,none⟩) i c)).run P w.drew=.ok (cs.take (i*k)).toArray w.drew:=by
  rw[hzs];exact run_firstCells_some w.drew k i ⟨b,off,none⟩ i c (cs.take (i*k)) htl (λj v hj=>by
    rw[hM];rw[List.getElem?_take]at hj;split at hj
    .exact bT (w:=w.drew) (by exact hb) (hcs j v hj)
    .cases hj)
 have hbm:(n+m-i)*bytes<=(n+m)*bytes:=c7 _ ae;have hrz:∀ty,(Builtin.append_ #[(ρ.t 24),(ρ.t 3)] ty #[.slice (some ⟨b,off,none⟩) i c,.int .i64 ((n:Int)+(m:Int)-(i:Int))]).run P w=
    .ok (.slice (some ⟨w.heap.size,0,none⟩) (n+m) (grownCap w (n+m) c (ρ.t 9))) (w.drew.alloc (.cells ((cs.take (i*k)).toArray++Builtin.zeroCells z.cells (n+m-i)++Builtin.zeroCells z.cells (grownCap w (n+m) c (ρ.t 9)-(n+m))) (ρ.t 9))):=λty=>by
  have h:=Lib.run_append_grow_zeros w (ρ.t 24) (ρ.t 3) ty (ρ.t 9) i0 _ .i64 .i64 L.t24 L.t3 hi0 hz0 (some ⟨b,off,none⟩) i c (cs.take (i*k)) hold (n+m-i) ae ae ae ae (by rw[hzb];omega) (by rw[hzb,hik];exact growslice_fits hroom hbig);rw[hik]at h;rw[hkk];exact h
 unfold qc;obtain⟨G,hG⟩:∃G,G=grownCap w (n+m) c (ρ.t 9):=⟨_,rfl⟩;obtain⟨ROW,hROW⟩:∃ROW:Array Value,ROW=(cs.take (i*k)).toArray++Builtin.zeroCells z.cells (n+m-i)++Builtin.zeroCells z.cells (G-(n+m)):=⟨_,rfl⟩;rw[<-hG]at hrz⊢;rw[<-hROW]at hrz⊢;have hRl:(n+m)*k<=ROW.size:=by
  rw[hROW];have e:i*k+(n+m-i)*k=(n+m)*k:=by rw[<-dq,hik]
  simp only[Ay,List.size_toArray,htl,sD,hzc];omega
 obtain⟨W1,hW1⟩:∃W1,W1=w.drew.alloc (.cells ROW (ρ.t 9)):=⟨_,rfl⟩;rw[<-hW1]at hrz;have hsz1:w.drew.heap.size=w.heap.size:=rfl;have hN:W1.heap[w.heap.size]?=some (.cells ROW (ρ.t 9)):=by rw[hW1,heap_alloc,aq hsz1.symm]
 have hO:W1.heap[b]?=some (.cells arr T d):=by rw[hW1,heap_alloc,an (by rw[hsz1];omega)];exact hb
 have hV:W1.heap[vb]?=some (.cells a l f):=by rw[hW1,heap_alloc,an (by rw[hsz1];omega)];exact hvb
 have hlt1:w.heap.size<W1.heap.size:=aM hN;have e3:i*k+m*k=(i+m)*k:=by rw[<-dq]
 have e4:(i+m)*k<=(n+m)*k:=c7 _ ae;have e5:(i+m)*k+(n-i)*k=(n+m)*k:=by rw[<-dq];congr 1;omega
 have hcpA:∀(W:World),W.heap=W1.heap->∀ty dc,(Builtin.copy_ #[(ρ.t 24),(ρ.t 24)] ty #[.slice (some ⟨w.heap.size,i*k,none⟩) (n+m-i) dc,.slice (some ⟨vb,voff,none⟩) m vc]).run P W=.ok (goInt (m:Int)) (cu W w.heap.size (cA ROW (i*k) vs) (ρ.t 9) (0,0)):=λW hW ty dc=>
  oT (W:=W) (dl:=n+m-i) (sl:=m) (n:=m) (o:=i*k) (so:=voff) L.t24 L.z9 (by rw[hW];exact hN) (by rw[hW];exact hV) vs (by show m=min _ _;omega) hvl hvs h1v (by rw[hvl];omega)
 obtain⟨A1,hA1⟩:∃A1,A1=cA ROW (i*k) vs:=⟨_,rfl⟩;have hs1:A1.size=ROW.size:=by rw[hA1,bW]
 have hcpB:∀(W:World),W.heap=(cu W1 w.heap.size A1 (ρ.t 9) (0,0)).heap->∀ty dc sc,(Builtin.copy_ #[(ρ.t 24),(ρ.t 24)] ty #[.slice (some ⟨w.heap.size,(i+m)*k,none⟩) (n+m-(i+m)) dc,.slice (some ⟨b,off+i*k,none⟩) (n-i) sc]).run P W=.ok (goInt ((n-i:Nat):Int)) (cu W w.heap.size (cA A1 ((i+m)*k) (cs.drop (i*k))) (ρ.t 9) (0,0)):=λW hW ty dc sc=>
  oT (W:=W) (dl:=n+m-(i+m)) (sl:=n-i) (n:=n-i) (o:=(i+m)*k) (so:=off+i*k) (arr:=A1) (sarr:=arr) L.t24 L.z9 (by rw[hW,dI,aq ⟨rfl,hlt1⟩]) (by rw[hW,dI,an ae];exact hO) (cs.drop (i*k)) (by show n-i=min _ _;omega) hdl
    (λj v hj=>by rw[Nat.add_assoc];rw[List.getElem?_drop]at hj;exact hcs _ v hj) (λv hv=>h1c v (List.mem_of_mem_drop hv)) (by rw[hdl,hs1];omega)
 rw[<-hA1]at hcpA;have hGn:n+m<=G:=by rw[hG];exact grownCap_ge w _ _ _
 have hG63:G<=9223372036854775807:=by
  have:=grownCap_le_maxLen w (n+m) c (ρ.t 9) (by unfold maxLen;omega);rw[<-hG]at this;unfold maxLen at this;omega
 have hGi:¬(G=i):=ae;have hGim:¬(G=i+m):=ae;have hci:¬(c=i):=ae;have hw1:IntKind.i64.wrap ((i:Int)+(m:Int))=(i:Int)+(m:Int):=by rw[IntKind.wrap_i64];omega
 have hb1:(0:Int)<=(i:Int)+(m:Int):=ae;have hin':i<=n:=ae;have htn:((i:Int)+(m:Int)).toNat=i+m:=ae;have hb3:(i:Int)<=(n:Int):=ae;have hfin:∀X:World,X=cu (cu W1 w.heap.size A1 (ρ.t 9) (0,0)).drew w.heap.size (cA A1 ((i+m)*k) (cs.drop (i*k))) (ρ.t 9) (0,0)->X=w.drew.drew.alloc (.cells (cA A1 ((i+m)*k) (cs.drop (i*k))) (ρ.t 9)):=by
  intro X hX;have e1:(cu W1 w.heap.size A1 (ρ.t 9) (0,0)).drew=cu (w.drew.drew.alloc (.cells ROW (ρ.t 9))) w.heap.size A1 (ρ.t 9) (0,0):=by rw[hW1];rfl
  rw[hX,e1,mQ];exact Ep w.drew.drew _ _ _ _ _
 clear hkk hik hold hROW hG hRl hbig hbig2 hbm hdl htl hin e4 e5 e3;have hE:((cu (w.alloc (.cells ROW (ρ.t 9))).drew w.heap.size (cA ROW (i*k) vs) (ρ.t 9) (0,0)).drew).heap=(cu W1 w.heap.size A1 (ρ.t 9) (0,0)).heap:=by rw[hW1,hA1];rfl
 rw[<-hA1];rw[hA1]at hE;obtain⟨nm,_,g⟩:=L.f22
 go_enter g,Body2.n22_ntmps ρ
 go_wp2_with (first
  |(at_builtin;refine Lib.wpList_append_run _ rfl _ _ _ _ rfl _ _ rfl rfl _ _ (hrz _) ?_)
  |(at_builtin;refine wpList_copy_runI _ rfl _ _ (ρ.t 24) (ρ.t 24) rfl _ _ rfl rfl (hcpA _ rfl _ _) ?_))
 go_region_law_o (refine step_copy_runI rfl _ _ (ρ.t 24) (ρ.t 24) rfl (.slice (some ⟨w.heap.size,(i+m)*k,none⟩) (n+m-(i+m)) (G-(i+m))) (.slice (some ⟨b,off+i*k,none⟩) (n-i) (c-i)) (by simp[Act.eval,Act.put]) (by simp[Act.eval,Act.put]) (hcpB _ hE (ρ.t 3) (G-(i+m)) (c-i)) ?_)
 go_wp2
 go_ret
 refine⟨rfl,?_⟩;subst hA1;subst hW1;exact hfin _ rfl
def pX{A:Array Value}{s c k a j:Nat}{l:List Value}{f:Nat->Nat->Value}(i:l.length=c*k)(m:∀a j,a<c->j<k->l[a*k+j]?=some (f a j))(b:(s+c)*k<=A.size)(n:j<k):
  (cA A (s*k) l)[a*k+j]?=if s<=a/\a<s+c then some (f (a-s) j)else A[a*k+j]?:=by
 have e:s*k+l.length=(s+c)*k:=by rw[i,<-dq]
 rw[fg _ _ _ _ (by rw[e];exact b),e];by_cases h:s<=a/\a<s+c
 .have d:(a+1)*k<=(s+c)*k:=c7 _ ae;rw[dq,gX]at d;have p:s*k<=a*k:=c7 _ h.1;rw[aq ⟨ae,ae⟩,aq h];have o:a*k+j-s*k=(a-s)*k+j:=by rw[GQ];omega
  rw[o];exact m _ _ ae n
 .rw[an h];have g:a<s\/s+c<=a:=ae;rcases g with g|g
  .have d:(a+1)*k<=s*k:=c7 _ ae;rw[dq,gX]at d;rw[an ae]
  .have d:(s+c)*k<=a*k:=c7 _ g;rw[an ae]
def gq{a:Type}(b c:List a)(i:Nat):List a:=b.take i++c++b.drop i
def sG.append(L:sG P ρ k bytes):jB P (ρ.t 24) (ρ.t 24) bytes k=true:=by
 obtain⟨i,z,a,b,c,d,f⟩:=L.i9;have e:bY P (ρ.t 24)=some (ρ.t 9):=by unfold bY;rw[L.t24]
 unfold jB;rw[e];simp only[a,b,c,d,f,beq_self_eq_true,Bool.true_and,L.hk,L.Sb,decide_true]
def MR{w:World}{U:Nat->Prop}{p:Nat}{l f:List (List PV)}{q s:Nat->Nat->Value}(a:kc w U p l q)(b:kc w U p f s){i:Nat}(v:i<=l.length):
  kc w U p (gq l f i) (λa j=>if a<i then q a j else if a<i+f.length then s (a-i) j else q (a-f.length) j):=by
 have m:∀(e:Nat) (x:List PV),(gq l f i)[e]?=some x->(e<i/\l[e]?=some x)\/(i<=e/\e<i+f.length/\f[e-i]?=some x)\/(i+f.length<=e/\l[e-f.length]?=some x):=by
  intro e x d;unfold gq at d;have t:(l.take i).length=i:=by rw[List.length_take];omega
  rcases cK e i with h|h
  .left;rw[List.append_assoc,List.getElem?_append_left ae,List.getElem?_take,aq h]at d;exact⟨h,d⟩
  .right;rcases cK e (i+f.length)with r|r
   .left;rw[List.getElem?_append_left (by rw[List.length_append];omega),List.getElem?_append_right ae,t]at d;exact⟨h,r,d⟩
   .right;rw[List.getElem?_append_right (by rw[List.length_append];omega),List.length_append,t,List.getElem?_drop]at d;exact⟨r,by rw[show i+(e-(i+f.length))=e-f.length by omega]at d;exact d⟩
 refine⟨λe x j y d n=>?_,λe x j y d n=>?_,λx d=>?_⟩
 .rcases m e x d with⟨g,c⟩|⟨g,c,o⟩|⟨g,c⟩
  .rw[aq g];exact a.one _ _ _ _ c n
  .rw[an ae,aq c];exact b.one _ _ _ _ o n
  .rw[an ae,an ae];exact a.one _ _ _ _ c n
 .rcases m e x d with⟨g,c⟩|⟨g,c,o⟩|⟨g,c⟩
  .rw[aq g];exact a.rep _ _ _ _ c n
  .rw[an ae,aq c];exact b.rep _ _ _ _ o n
  .rw[an ae,an ae];exact a.rep _ _ _ _ c n
 .obtain⟨e,u⟩:=List.mem_iff_getElem?.1 d;rcases m e x u with⟨g,c⟩|⟨g,c,o⟩|⟨g,c⟩
  .exact a.sz _ (List.mem_of_getElem? c)
  .exact b.sz _ (List.mem_of_getElem? o)
  .exact a.sz _ (List.mem_of_getElem? c)
def vi{c:Type}(a b:List c){i:Nat}(d:i<=a.length):(gq a b i).length=a.length+b.length:=by
 simp only[gq,List.length_append,List.length_take,List.length_drop];omega
def JL{w:World}{U:Nat->Prop}{p:Place}{H:Heap}{q:Nat}{r:Nat}{l f:List (List DV)}{s u:Nat->Nat->Value}(a:ik w U p H q r l s)(b:ik w U p H q r f u){i:Nat}(A:i<=l.length):
  ik w U p H q r (gq l f i) (λa j=>if a<i then s a j else if a<i+f.length then u (a-i) j else s (a-f.length) j):=by
 have m:∀(e:Nat) (x:List DV),(gq l f i)[e]?=some x->(e<i/\l[e]?=some x)\/(i<=e/\e<i+f.length/\f[e-i]?=some x)\/(i+f.length<=e/\l[e-f.length]?=some x):=by
  intro e x d;unfold gq at d;have v:(l.take i).length=i:=by rw[List.length_take];omega
  rcases cK e i with h|h
  .left;rw[List.append_assoc,List.getElem?_append_left ae,List.getElem?_take,aq h]at d;exact⟨h,d⟩
  .right;rcases cK e (i+f.length)with t|t
   .left;rw[List.getElem?_append_left (by rw[List.length_append];omega),List.getElem?_append_right ae,v]at d;exact⟨h,t,d⟩
   .right;rw[List.getElem?_append_right (by rw[List.length_append];omega),List.length_append,v,List.getElem?_drop]at d;exact⟨t,by rw[show i+(e-(i+f.length))=e-f.length by omega]at d;exact d⟩
 refine⟨λe x j y d n=>?_,λe x j y d n=>?_,λx d=>?_⟩
 .rcases m e x d with⟨g,c⟩|⟨g,c,o⟩|⟨g,c⟩
  .rw[aq g];exact a.one _ _ _ _ c n
  .rw[an ae,aq c];exact b.one _ _ _ _ o n
  .rw[an ae,an ae];exact a.one _ _ _ _ c n
 .rcases m e x d with⟨g,c⟩|⟨g,c,o⟩|⟨g,c⟩
  .rw[aq g];exact a.rep _ _ _ _ c n
  .rw[an ae,aq c];exact b.rep _ _ _ _ o n
  .rw[an ae,an ae];exact a.rep _ _ _ _ c n
 .obtain⟨e,z⟩:=List.mem_iff_getElem?.1 d;rcases m e x z with⟨g,c⟩|⟨g,c,o⟩|⟨g,c⟩
  .exact a.sz _ (List.mem_of_getElem? c)
  .exact b.sz _ (List.mem_of_getElem? o)
  .exact a.sz _ (List.mem_of_getElem? c)
def kU(a:List (List PV)):List (List DV):=a.map λy=>y.map .p
def j4(a:List (List PV)):(kU a).length=a.length:=by simp[kU]
def A2{w:World}{U:Nat->Prop}{n:Place}{H:Heap}{o:Nat}{m:Nat}{c:List (List PV)}{f:Nat->Nat->Value}(r:∀i x j y,c[i]?=some x->x[j]?=some y->(f i j).oneCell'=true)
  (s:∀i x j y,c[i]?=some x->x[j]?=some y->bP w U y (f i j))(t:∀x∈c,x.length=m):ik w U n H o m (kU c) f:=by
 have d:∀(i:Nat) (x:List DV) (j:Nat) (y:DV),(kU c)[i]?=some x->x[j]?=some y->∃(q:List PV) (p:PV),c[i]?=some q/\q[j]?=some p/\y=DV.p p:=by
  intro i x j y a b;simp only[kU,List.getElem?_map]at a;cases e:c[i]? with
  |none=>rw[e]at a;cases a
  |some q=>
   rw[e]at a;simp only[Option.map_some,aw]at a;subst a;rw[List.getElem?_map]at b;cases g:q[j]? with
   |none=>rw[g]at b;cases b
   |some p=>rw[g]at b;simp only[Option.map_some,aw]at b;exact⟨q,p,rfl,g,b.symm⟩
 refine⟨λi x j y a b=>?_,λi x j y a b=>?_,λx a=>?_⟩
 .obtain⟨q,p,h,l,_⟩:=d i x j y a b;exact r i q j p h l
 .obtain⟨q,p,h,l,rfl⟩:=d i x j y a b;exact .p _ _ (s i q j p h l)
 .simp only[kU,List.mem_map]at a;obtain⟨q,e,rfl⟩:=a;rw[List.length_map];exact t q e
def Mf(L:sG P ρ k bytes)(xb:fx P (ρ.f 22)){id i:Nat}{H:Heap}{nx:Nat}{f g:List (List PV)}{fl:Bool}(V:ah H id=some (.row false k f))(hi:i<=f.length)(y0:g≠[])(xc:bV k g=true)
  (xd:(f.length+g.length)*bytes<=ak)(x2:f.length+g.length<=ak):
  iJ P (ρ.f 22) [.ref id f.length 0 f.length,.p (.int .i64 i),.p (.slice fl g)] H nx (.ref id (f.length+g.length) 0 (f.length+g.length)) (aH H id (.row false k (gq f g i))) nx:=by
 refine⟨xb,λB w0 U0 β w vl m y3 R=>?_⟩;have S:=R 0 _ rfl;have y4:=(R 1 _ rfl).gJ;have W:=R 2 _ rfl;have xe:vl=#[vl.getD 0 undef,vl.getD 1 undef,vl.getD 2 undef]:=by
  apply rL
  .simpa using y3
  .intro i U h2;have hi:i=0\/i=1\/i=2:=by simp at h2;omega
   rcases hi with rfl|rfl|rfl<;>simp[U]
 rw[xe,y4];generalize vl.getD 0 undef=v at S;generalize vl.getD 2 undef=u at W;have hm:0<g.length:=List.length_pos_iff.2 y0;have hk:=L.hk;have zj:∀(p:Option Addr) (n c:Nat),v=.slice p n c->True:=λ_ _ _ _=>trivial
 rcases cK i f.length with X|zk
 .have y5:=S;cases S with|ref _ _ _ _ _ hid x3 E _=>
  have E:=(E _ _ _ V).2 rfl ae;rcases E with⟨D,_,_⟩|⟨b,s,ad,Z,rfl,xg⟩
  .rw[D]at X;simp at X
  .obtain rfl:=xg (.inl ae);rcases m.h.aY id _ V with⟨y6,hn⟩|⟨b',xi,Q,T,U,h2,h3,h4,h5,h6,l,h7,h8,h9⟩
   .rw[Z]at hn;cases hn
   .rw[Z]at U;simp only[aw,bQ]at U;obtain⟨rfl,rfl⟩:=U;have yb:kc w (Own U0 β H) k f l:=⟨h8,h9,h6⟩;have xj:∀a j,a<f.length->j<k->Q[a*k+j]?=some (l a j):=by
     intro a j F o;have D:=List.getElem?_eq_getElem F;have hl:=h6 _ (List.getElem_mem F);exact h7 a _ j _ D (List.getElem?_eq_getElem ae)
    have xk:∀a j,a<f.length->j<k->(l a j).oneCell'=true:=by
     intro a j F o;have D:=List.getElem?_eq_getElem F;have hl:=h6 _ (List.getElem_mem F);exact h8 a _ j _ D (List.getElem?_eq_getElem ae)
    cases W with|p _ _ hp=>
    cases hp with
    |none=>simp at hm
    |slice _ _ vb M vc d x0 vT zn N z7 zo zp xl yg O yh xm yi=>
     have yj:d=k:=by
      cases g with
      |nil=>simp at hm
      |cons y r=>rw[<-O y aB,pk xc y aB]
     subst yj;have yk:kc w (Own U0 β H) d g N:=⟨xm,yi,O⟩;have xn:vb≠b:=λe=>yg (by subst e;exact .inr ⟨id,_,s,V,rfl,Z⟩)
     have xo:∀a j,a<g.length->j<d->x0[M+a*d+j]?=some (N a j):=by
      intro a j F o;have D:=List.getElem?_eq_getElem F;have hl:=O _ (List.getElem_mem F);exact yh a _ j _ D (List.getElem?_eq_getElem ae)
     have x4:∀a j,a<g.length->j<d->(N a j).oneCell'=true:=by
      intro a j F o;have D:=List.getElem?_eq_getElem F;have hl:=O _ (List.getElem_mem F);exact xm a _ j _ D (List.getElem?_eq_getElem ae)
     have cV:∀j v,(flat g.length d N)[j]?=some v->x0[M+j]?=some v:=by
      intro j v o;obtain⟨g1,g2,g3,rfl⟩:=eI N o;have:=xo _ _ g2 g3
      rwa [Nat.add_assoc,qy,CI]at this
     have oV:∀v∈flat g.length d N,v.oneCell'=true:=by
      intro v hv;obtain⟨j,o⟩:=List.mem_iff_getElem?.1 hv;obtain⟨g1,g2,g3,rfl⟩:=eI N o;exact x4 _ _ g2 g3
     have t:=vi f g (i:=i) ae;have cF:∀j v,(flat f.length d l)[j]?=some v->Q[0+j]?=some v:=by
      intro j v o;obtain⟨g1,g2,g3,rfl⟩:=eI l o;have:=xj _ _ g2 g3;rw[Nat.zero_add];rwa [qy,CI]at this
     have oF:∀v∈flat f.length d l,v.oneCell'=true:=by
      intro v hv;obtain⟨j,o⟩:=List.mem_iff_getElem?.1 hv;obtain⟨g1,g2,g3,rfl⟩:=eI l o;exact xk _ _ g2 g3
     have dD:((flat f.length d l).drop (i*d)).length=(f.length-i)*d:=by rw[List.length_drop,bJ,GQ]
     have fD:∀a j,a<f.length-i->j<d->((flat f.length d l).drop (i*d))[a*d+j]?=some (l (i+a) j):=by
      intro a j F o;rw[List.getElem?_drop,<-Nat.add_assoc,<-dq];exact iW l ae o
     have fV:∀a j,a<g.length->j<d->(flat g.length d N)[a*d+j]?=some (N a j):=λa j F o=>iW N F o
     have Y:=MR yb yk (i:=i) ae;simp only[wc,qD];have e1:(i+g.length)+(f.length-i)=f.length+g.length:=ae;by_cases I:f.length+g.length<=s
     .have q:(f.length+g.length)*d<=Q.size:=by rw[h4];exact c7 _ I
      have J:(i+g.length)*d<=Q.size:=dL (c7 _ ae) q;have C:=vC L (w:=w) (b:=b) (off:=0) (n:=f.length) (c:=s) (i:=i) (vb:=vb) (voff:=M) (m:=g.length) (vc:=vc) X hm I (by unfold ak at x2;omega) h3 (by rw[Nat.zero_add];exact q) xl xn
       ((flat f.length d l).drop (i*d)) (flat g.length d N) dD (bJ _ _ _) (λj v o=>by rw[List.getElem?_drop]at o;rw[Nat.add_assoc];exact cF _ _ o) cV (λv hv=>oF v (List.mem_of_mem_drop hv)) oV
      refine C.mono ?_;rintro e w' ⟨rfl,rfl⟩;have m1:=m.call (eA w.heap.size w);have hg:Good B w0 U0 H nx β w.drew (.ref id (gq f g i).length 0 (gq f g i).length) (aH H id (.row false d (gq f g i))) nx (.slice (some ⟨b,0,none⟩) (f.length+g.length) s) (cu w.drew b (cA (cA Q (0+(i+g.length)*d) ((flat f.length d l).drop (i*d))) (0+i*d) (flat g.length d N)) T (0,0)):=by
       refine lh m1.1 V Z h2 h3 (by rw[bW,bW,h4]) (by rw[t];exact I) (by rw[t];omega) _ (Y.lx m1.2) (λa x j y D hy=>?_) _ _ (λH' yp he hk=>?_)
       .have yq:a<f.length+g.length:=by have:=aL D;rwa [t]at this
        have K:j<d:=by have:=aL hy;rw[Y.sz x (List.mem_of_getElem? D)]at this;exact this
        rw[Nat.zero_add,Nat.zero_add,pX (bJ _ _ _) fV (by rw[bW];exact J) K,pX dD fD (by rw[e1];exact q) K];by_cases c1:a<i
        .rw[an ae,an ae,aq c1];exact xj a j ae K
        .by_cases c2:a<i+g.length
         .rw[aq ⟨ae,c2⟩,an c1,aq c2]
         .rw[an ae,aq ⟨ae,ae⟩,an c1,an c2];rw[show i+(a-(i+g.length))=a-g.length by omega]
       .subst yp;refine .ref id _ 0 _ _ hid rfl (λfz xq yr h=>?_) (λfz xq yr h=>by rw[bn,aq rfl,V]at h;cases h);rw[bn,aq rfl,V]at h;simp only[Option.map_some,aw,ca.row.injEq]at h;obtain⟨_,rfl,rfl⟩:=h;rw[<-t];exact⟨Nat.le_refl _,λ_ _=>.inr ⟨b,s,some ⟨b,0,none⟩,Z,aB,λ_=>aB⟩⟩
      rw[t]at hg;obtain⟨yt,m2,kp,ev,dr⟩:=hg;exact⟨_,rfl,yt,m2,m1.2.trans kp,ev,dr⟩
     .obtain⟨i0,z,yu,yv,yw,yx,xr⟩:=L.i9;have C:=yP L yu yv yw yx xr (w:=w) (b:=b) (off:=0) (n:=f.length) (c:=s) (i:=i) (vb:=vb) (voff:=M) (m:=g.length) (vc:=vc) X hm h5 ae xd x2 h3 xl
       (flat f.length d l) (flat g.length d N) (bJ _ _ _) (bJ _ _ _) cF cV oF oV
      refine C.mono ?_;rintro e w' ⟨rfl,rfl⟩;have hG:=grownCap_ge w (f.length+g.length) s (ρ.t 9);generalize grownCap w (f.length+g.length) s (ρ.t 9)=G at hG⊢;have tl:((flat f.length d l).take (i*d)).length=i*d:=by
       rw[List.length_take,bJ];have:=c7 d (show i<=f.length by omega);omega
      obtain⟨A,hA⟩:∃A,A=(((flat f.length d l).take (i*d)).toArray++Builtin.zeroCells z.cells (f.length+g.length-i)++Builtin.zeroCells z.cells (G-(f.length+g.length))):=⟨_,rfl⟩;have xt:A.size=G*d:=by
       rw[hA];simp only[Ay,List.size_toArray,tl,sD,xr];rw[<-dq,<-dq];congr 1;omega
      have z0:∀a j,a<i->j<d->A[a*d+j]?=some (l a j):=by
       intro a j F o;have U:(a+1)*d<=i*d:=c7 _ ae;rw[dq,gX]at U;rw[hA,BW (by rw[Ay,List.size_toArray,tl];omega),BW (by rw[List.size_toArray,tl];omega),List.getElem?_toArray,List.getElem?_take,aq ae];exact iW l ae o
      have q:(f.length+g.length)*d<=A.size:=by rw[xt];exact c7 _ hG
      have J:(i+g.length)*d<=A.size:=dL (c7 _ ae) q;have hg:=vU m V (gq f g i) (by rw[t];omega) _ (qc z d f.length i g.length G (flat f.length d l) (flat g.length d N)) G (ρ.t 9) w.drew.drew rfl ((eA _ _).trans (eA _ _))
       (by unfold qc;rw[bW,bW,<-hA];exact xt) (by rw[t];exact hG) Y (λa x j y D hy=>by
        have yq:a<f.length+g.length:=by have:=aL D;rwa [t]at this
        have K:j<d:=by have:=aL hy;rw[Y.sz x (List.mem_of_getElem? D)]at this;exact this
        unfold qc;rw[<-hA,pX dD fD (by rw[bW,e1];exact q) K,pX (bJ _ _ _) fV J K];by_cases c1:a<i
        .rw[an ae,an ae,aq c1];exact z0 a j c1 K
        .by_cases c2:a<i+g.length
         .rw[an ae,aq ⟨ae,c2⟩,an c1,aq c2]
         .rw[aq ⟨ae,ae⟩,an c1,an c2];rw[show i+(a-(i+g.length))=a-g.length by omega])
      rw[t]at hg;exact⟨_,rfl,hg⟩
 .have:i=f.length:=ae;subst this;have xu:iX bytes k g (.ref id f.length 0 f.length) H nx=some (.ref id (f.length+g.length) 0 (f.length+g.length),aH H id (.row false k (f++g)),nx):=by
   unfold iX;simp only[V];simp only[true_and,xd,x2,and_self,bZ]
  obtain⟨y,w',xv,hg⟩:=Ci (ty:=ρ.t 24) L.append m S W (ys:=g) (ids:=[]) rfl xc xu;have z1:∃p c,v=.slice p f.length c/\f.length<=c:=by
   cases S with|ref _ _ _ _ _ hid x3 E _=>
   rcases(E _ _ _ V).2 rfl ae with⟨D,_,a,rfl⟩|⟨b,s,ad,Z,rfl,xg⟩
   .exact⟨a,0,by rw[D];rfl,by rw[D];exact Nat.le_refl 0⟩
   .refine⟨_,_,rfl,?_⟩;rcases m.h.aY id _ V with⟨y6,hn⟩|⟨b',xi,Q,T,U,h2,h3,h4,h5,h6,l,h7,h8,h9⟩
    .rw[Z]at hn;cases hn
    .rw[Z]at U;simp only[aw,bQ]at U;obtain⟨rfl,rfl⟩:=U;rw[qD];exact h5
  obtain⟨p,c,rfl,z2⟩:=z1;cases W with|p _ _ hp=>
  obtain⟨ya,yc,rfl,_,_⟩:=hp.kz;have ei:gq f g f.length=f++g:=by simp[gq]
  rw[ei];refine(AM L hm z2 xv).mono ?_;rintro e zw ⟨rfl,rfl⟩;exact⟨_,rfl,hg⟩
def JD(L:sG P ρ k bytes)(xh:fx P (ρ.f 22)){id i:Nat}{H:Heap}{nx:Nat}{g:List (List DV)}{f:List (List PV)}{fl:Bool}(W:ah H id=some (.bh false k g))(hi:i<=g.length)(y7:f≠[])(xi:bV k f=true)
  (xj:(g.length+f.length)*bytes<=ak)(x4:g.length+f.length<=ak):
  iJ P (ρ.f 22) [.ref id g.length 0 g.length,.p (.int .i64 i),.p (.slice fl f)] H nx (.ref id (g.length+f.length) 0 (g.length+f.length)) (aH H id (.bh false k (gq g (kU f) i))) nx:=by
 refine⟨xh,λB w0 U0 β w vl m y8 R=>?_⟩;have S:=R 0 _ rfl;have y9:=(R 1 _ rfl).gJ;have x6:=R 2 _ rfl;have xk:vl=#[vl.getD 0 undef,vl.getD 1 undef,vl.getD 2 undef]:=by
  apply rL
  .simpa using y8
  .intro i U h2;have hi:i=0\/i=1\/i=2:=by simp at h2;omega
   rcases hi with rfl|rfl|rfl<;>simp[U]
 rw[xk,y9];generalize vl.getD 0 undef=v at S;generalize vl.getD 2 undef=u at x6;have hm:0<f.length:=List.length_pos_iff.2 y7;have hk:=L.hk;have zj:∀(p:Option Addr) (n c:Nat),v=.slice p n c->True:=λ_ _ _ _=>trivial
 rcases cK i g.length with X|zk
 .have yb:=S;cases S with|ref _ _ _ _ _ hid x7 _ E=>
  have E:=(E _ _ _ W).2 rfl ae;rcases E with⟨D,_,_⟩|⟨b,s,ad,Z,rfl,xm⟩
  .rw[D]at X;simp at X
  .obtain rfl:=xm (.inl ae);rcases m.h.aY id _ W with⟨yd,hn⟩|⟨b',xo,Q,T,U,h2,h3,h4,h5,h6,l,h7,h8,h9⟩
   .rw[Z]at hn;cases hn
   .rw[Z]at U;simp only[aw,bQ]at U;obtain⟨rfl,rfl⟩:=U;have yh:ik w (Own U0 β H) β H nx k g l:=⟨h8,h9,h6⟩;have xp:∀a j,a<g.length->j<k->Q[a*k+j]?=some (l a j):=by
     intro a j I o;have D:=List.getElem?_eq_getElem I;have hl:=h6 _ (List.getElem_mem I);exact h7 a _ j _ D (List.getElem?_eq_getElem ae)
    have xq:∀a j,a<g.length->j<k->(l a j).oneCell'=true:=by
     intro a j I o;have D:=List.getElem?_eq_getElem I;have hl:=h6 _ (List.getElem_mem I);exact h8 a _ j _ D (List.getElem?_eq_getElem ae)
    cases x6 with|p _ _ hp=>
    cases hp with
    |none=>simp at hm
    |slice _ _ vb N vc d x0 vT zn F z7 zo zp xr yk O yl xt ym=>
     have yn:d=k:=by
      cases f with
      |nil=>simp at hm
      |cons y r=>rw[<-O y aB,pk xi y aB]
     subst yn;have yo:ik w (Own U0 β H) β H nx d (kU f) F:=A2 xt ym O;have xu:vb≠b:=λe=>yk (by subst e;exact .inr ⟨id,_,s,W,rfl,Z⟩)
     have xv:∀a j,a<f.length->j<d->x0[N+a*d+j]?=some (F a j):=by
      intro a j I o;have D:=List.getElem?_eq_getElem I;have hl:=O _ (List.getElem_mem I);exact yl a _ j _ D (List.getElem?_eq_getElem ae)
     have x8:∀a j,a<f.length->j<d->(F a j).oneCell'=true:=by
      intro a j I o;have D:=List.getElem?_eq_getElem I;have hl:=O _ (List.getElem_mem I);exact xt a _ j _ D (List.getElem?_eq_getElem ae)
     have cV:∀j v,(flat f.length d F)[j]?=some v->x0[N+j]?=some v:=by
      intro j v o;obtain⟨g1,g2,g3,rfl⟩:=eI F o;have:=xv _ _ g2 g3
      rwa [Nat.add_assoc,qy,CI]at this
     have oV:∀v∈flat f.length d F,v.oneCell'=true:=by
      intro v hv;obtain⟨j,o⟩:=List.mem_iff_getElem?.1 hv;obtain⟨g1,g2,g3,rfl⟩:=eI F o;exact x8 _ _ g2 g3
     have t:(gq g (kU f) i).length=g.length+f.length:=by rw[vi _ _ ae,j4]
     have cF:∀j v,(flat g.length d l)[j]?=some v->Q[0+j]?=some v:=by
      intro j v o;obtain⟨g1,g2,g3,rfl⟩:=eI l o;have:=xp _ _ g2 g3;rw[Nat.zero_add];rwa [qy,CI]at this
     have oF:∀v∈flat g.length d l,v.oneCell'=true:=by
      intro v hv;obtain⟨j,o⟩:=List.mem_iff_getElem?.1 hv;obtain⟨g1,g2,g3,rfl⟩:=eI l o;exact xq _ _ g2 g3
     have dD:((flat g.length d l).drop (i*d)).length=(g.length-i)*d:=by rw[List.length_drop,bJ,GQ]
     have fD:∀a j,a<g.length-i->j<d->((flat g.length d l).drop (i*d))[a*d+j]?=some (l (i+a) j):=by
      intro a j I o;rw[List.getElem?_drop,<-Nat.add_assoc,<-dq];exact iW l ae o
     have fV:∀a j,a<f.length->j<d->(flat f.length d F)[a*d+j]?=some (F a j):=λa j I o=>iW F I o
     have V:=JL yh yo (i:=i) ae;rw[j4]at V;simp only[wc,qD];have e1:(i+f.length)+(g.length-i)=g.length+f.length:=ae;by_cases J:g.length+f.length<=s
     .have q:(g.length+f.length)*d<=Q.size:=by rw[h4];exact c7 _ J
      have K:(i+f.length)*d<=Q.size:=dL (c7 _ ae) q;have C:=vC L (w:=w) (b:=b) (off:=0) (n:=g.length) (c:=s) (i:=i) (vb:=vb) (voff:=N) (m:=f.length) (vc:=vc) X hm J (by unfold ak at x4;omega) h3 (by rw[Nat.zero_add];exact q) xr xu
       ((flat g.length d l).drop (i*d)) (flat f.length d F) dD (bJ _ _ _) (λj v o=>by rw[List.getElem?_drop]at o;rw[Nat.add_assoc];exact cF _ _ o) cV (λv hv=>oF v (List.mem_of_mem_drop hv)) oV
      refine C.mono ?_;rintro e w' ⟨rfl,rfl⟩;have m1:=m.call (eA w.heap.size w);have hg:Good B w0 U0 H nx β w.drew (.ref id (gq g (kU f) i).length 0 (gq g (kU f) i).length) (aH H id (.bh false d (gq g (kU f) i))) nx (.slice (some ⟨b,0,none⟩) (g.length+f.length) s) (cu w.drew b (cA (cA Q (0+(i+f.length)*d) ((flat g.length d l).drop (i*d))) (0+i*d) (flat f.length d F)) T (0,0)):=by
       refine qA m1.1 W Z h2 h3 (by rw[bW,bW,h4]) (by rw[t];exact J) (by rw[t];omega) _ (V.cn m1.2 (ku.refl _ _ _)) (λa x j y D hy=>?_) _ _ (λH' yu he hk=>?_)
       .have yv:a<g.length+f.length:=by have:=aL D;rwa [t]at this
        have M:j<d:=by have:=aL hy;rw[V.sz x (List.mem_of_getElem? D)]at this;exact this
        rw[Nat.zero_add,Nat.zero_add,pX (bJ _ _ _) fV (by rw[bW];exact K) M,pX dD fD (by rw[e1];exact q) M];by_cases c1:a<i
        .rw[an ae,an ae,aq c1];exact xp a j ae M
        .by_cases c2:a<i+f.length
         .rw[aq ⟨ae,c2⟩,an c1,aq c2]
         .rw[an ae,aq ⟨ae,ae⟩,an c1,an c2];rw[show i+(a-(i+f.length))=a-f.length by omega]
       .subst yu;refine .ref id _ 0 _ _ hid rfl (λfz xx yw h=>by rw[bn,aq rfl,W]at h;cases h) (λfz xx yw h=>?_);rw[bn,aq rfl,W]at h;simp only[Option.map_some,aw,ca.bh.injEq]at h;obtain⟨_,rfl,rfl⟩:=h;rw[<-t];exact⟨Nat.le_refl _,λ_ _=>.inr ⟨b,s,some ⟨b,0,none⟩,Z,aB,λ_=>aB⟩⟩
      rw[t]at hg;obtain⟨yx,m2,kp,ev,dr⟩:=hg;exact⟨_,rfl,yx,m2,m1.2.trans kp,ev,dr⟩
     .obtain⟨i0,z,xc,xd,xe,xf,Y⟩:=L.i9;have C:=yP L xc xd xe xf Y (w:=w) (b:=b) (off:=0) (n:=g.length) (c:=s) (i:=i) (vb:=vb) (voff:=N) (m:=f.length) (vc:=vc) X hm h5 ae xj x4 h3 xr
       (flat g.length d l) (flat f.length d F) (bJ _ _ _) (bJ _ _ _) cF cV oF oV
      refine C.mono ?_;rintro e w' ⟨rfl,rfl⟩;have hG:=grownCap_ge w (g.length+f.length) s (ρ.t 9);generalize grownCap w (g.length+f.length) s (ρ.t 9)=G at hG⊢;have tl:((flat g.length d l).take (i*d)).length=i*d:=by
       rw[List.length_take,bJ];have:=c7 d (show i<=g.length by omega);omega
      obtain⟨A,hA⟩:∃A,A=(((flat g.length d l).take (i*d)).toArray++Builtin.zeroCells z.cells (g.length+f.length-i)++Builtin.zeroCells z.cells (G-(g.length+f.length))):=⟨_,rfl⟩;have xy:A.size=G*d:=by
       rw[hA];simp only[Ay,List.size_toArray,tl,sD,Y];rw[<-dq,<-dq];congr 1;omega
      have z0:∀a j,a<i->j<d->A[a*d+j]?=some (l a j):=by
       intro a j I o;have U:(a+1)*d<=i*d:=c7 _ ae;rw[dq,gX]at U;rw[hA,BW (by rw[Ay,List.size_toArray,tl];omega),BW (by rw[List.size_toArray,tl];omega),List.getElem?_toArray,List.getElem?_take,aq ae];exact iW l ae o
      have q:(g.length+f.length)*d<=A.size:=by rw[xy];exact c7 _ hG
      have K:(i+f.length)*d<=A.size:=dL (c7 _ ae) q;have hg:=AF m W (gq g (kU f) i) (by rw[t];omega) _ (qc z d g.length i f.length G (flat g.length d l) (flat f.length d F)) G (ρ.t 9) w.drew.drew rfl ((eA _ _).trans (eA _ _))
       (by unfold qc;rw[bW,bW,<-hA];exact xy) (by rw[t];exact hG) V (λa x j y D hy=>by
        have yv:a<g.length+f.length:=by have:=aL D;rwa [t]at this
        have M:j<d:=by have:=aL hy;rw[V.sz x (List.mem_of_getElem? D)]at this;exact this
        unfold qc;rw[<-hA,pX dD fD (by rw[bW,e1];exact q) M,pX (bJ _ _ _) fV K M];by_cases c1:a<i
        .rw[an ae,an ae,aq c1];exact z0 a j c1 M
        .by_cases c2:a<i+f.length
         .rw[an ae,aq ⟨ae,c2⟩,an c1,aq c2]
         .rw[aq ⟨ae,ae⟩,an c1,an c2];rw[show i+(a-(i+f.length))=a-f.length by omega])
      rw[t]at hg;exact⟨_,rfl,hg⟩
 .have:i=g.length:=ae;subst this;obtain⟨i0,z,xc,xd,xe,xf,Y⟩:=L.i9;have z1:∃p c,v=.slice p g.length c/\g.length<=c:=by
   cases S with|ref _ _ _ _ _ hid x7 _ E=>
   rcases(E _ _ _ W).2 rfl ae with⟨D,_,a,rfl⟩|⟨b,s,ad,Z,rfl,xm⟩
   .exact⟨a,0,by rw[D];rfl,by rw[D];exact Nat.le_refl 0⟩
   .refine⟨_,_,rfl,?_⟩;rcases m.h.aY id _ W with⟨yd,hn⟩|⟨b',xo,Q,T,U,h2,h3,h4,h5,h6,l,h7,h8,h9⟩
    .rw[Z]at hn;cases hn
    .rw[Z]at U;simp only[aw,bQ]at U;obtain⟨rfl,rfl⟩:=U;rw[qD];exact h5
  cases x6 with|p _ _ hp=>
  obtain⟨F,sx⟩:=kI (P:=P) hp xi;have ey:ik w (Own U0 β H) β H nx k (kU f) F:=A2 sx.el.one sx.el.rep sx.el.sz;obtain⟨y,w',xz,hg⟩:=yF (ty:=ρ.t 24) L.t24 L.t24 xc xd xe Y m W S sx ey (j4 _).symm (by rw[j4,xf];exact xj) (by rw[j4];exact x4);rw[j4]at hg;obtain⟨p,c,rfl,z2⟩:=z1;obtain⟨ya,yc,rfl,_,_⟩:=hp.kz;have ei:gq g (kU f) g.length=g++kU f:=by simp[gq]
  rw[ei];refine(AM L hm z2 xz).mono ?_;rintro e zy ⟨rfl,rfl⟩;exact⟨_,rfl,hg⟩
def AI(F:FuncId)(k bytes:Nat):aI where
 pure:=λ_ _=>none
 de:=λf args H nx=>if f=F then match args with
   |[.ref id rD off n,.p (.int .i64 i),.p (.slice _ ys)]=>match ah H id with
    |some (.row false sz xs)=>if rD=xs.length/\off=0/\n=xs.length/\sz=k/\0<=i/\i<=xs.length/\ys.isEmpty=false/\bV k ys=true/\(xs.length+ys.length)*bytes<=ak/\xs.length+ys.length<=ak then
     some (.ref id (xs.length+ys.length) 0 (xs.length+ys.length),aH H id (.row false k (gq xs ys i.toNat)),nx)else none
    |some (.bh false sz xs)=>if rD=xs.length/\off=0/\n=xs.length/\sz=k/\0<=i/\i<=xs.length/\ys.isEmpty=false/\bV k ys=true/\(xs.length+ys.length)*bytes<=ak/\xs.length+ys.length<=ak then
     some (.ref id (xs.length+ys.length) 0 (xs.length+ys.length),aH H id (.bh false k (gq xs (kU ys) i.toNat)),nx)else none
    |_=>none
   |_=>none
  else none
def Jb(L:sG P ρ k bytes){F:FuncId}(o:ρ.f 22=F)(a:fx P F):bS P (AI F k bytes):=by
 refine⟨λf args r h=>(by cases h),λf args H p r q s h=>?_,λf args H p r q h=>(by cases h)⟩;simp only[AI]at h;split at h
 .rename_i e;subst e;split at h
  .rename_i id t u n i y z;split at h
   .rename_i v w c;split at h
    .rename_i d;obtain⟨rfl,rfl,rfl,rfl,g,x,b,j,l,m⟩:=d;cases h;obtain⟨i,rfl⟩:=Tu g;subst o;exact Mf L a c ae (by intro e;rw[e]at b;simp at b) j l m
    .cases h
   .rename_i v w c;split at h
    .rename_i d;obtain⟨rfl,rfl,rfl,rfl,g,x,b,j,l,m⟩:=d;cases h;obtain⟨i,rfl⟩:=Tu g;subst o;exact JD L a c ae (by intro e;rw[e]at b;simp at b) j l m
    .cases h
   .cases h
  .cases h
 .cases h
end
end
end Go.Dv
