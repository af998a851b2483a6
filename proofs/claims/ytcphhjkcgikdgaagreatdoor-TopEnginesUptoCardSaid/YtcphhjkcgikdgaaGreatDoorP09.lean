/- Lemmas for the law of this claim. -/
import Derived.Test.YtcphhjkcgikdgaaGreatDoorP08
set_option linter.all false
namespace Go.Dv
section
open Go.RowKit
section
variable{P:Program}{B:Nat}{w0:World}{U0:Nat->Prop}{β:Place}{w:World}{nt:Cx}{s:St}{a:Act}{cf:aK}
def yL{t e:TypeId}(h:vi P t=some e):∃b,P.underlying t=some (.map b e)/\P.underlying b=some .string:=by
 unfold vi at h;split at h
 .rename_i b f c;split at h
  .rename_i d;cases h;exact⟨b,c,d⟩
  .cases h
 .cases h
def yD{t:TypeId}(h:uY P t=true):∃b c,P.underlying t=some (.map b c)/\P.underlying b=some .string:=by
 unfold uY at h;split at h
 .rename_i b c d;exact⟨b,c,d,pa h⟩
 .cases h
def pB(k:ByteArray):MapKept.IsKey .string (.string k):=trivial
def wy{b:Array MapEntry}{c n:Nat}{f:SM}(h:lO b c n f)(k:ByteArray):match f k with
  |none=>Instr.findNow .string (.string k) b.toList 0=some none/\∀e∈b.toList,e.key≠.string k
  |some y=>∃j e,Instr.findNow .string (.string k) b.toList 0=some (some (j,e.val))/\b[j]?=some e/\e.key=.string k/\e.val=y.v:=by
 have m:∀x∈b.toList,MapKept.IsKey .string x.key:=λx r=>by
  obtain⟨o,y,d,_⟩:=h.to x r;rw[d];exact pB o
 rcases MapKept.findNow_spec (pB k) b.toList 0 m with⟨d,g⟩|⟨j,e,d,g,p⟩
 .cases i:f k with
  |none=>exact⟨d,g⟩
  |some y=>
   obtain⟨e,t,u⟩:=h.from_ k y i;exact absurd u (g e t)
 .have v:b[j]?=some e:=by simpa using g
  obtain⟨o,A,q,l,z⟩:=h.to e (List.mem_of_getElem? g);rw[p]at q;cases q;cases i:f k with
  |none=>rw[i]at l;cases l
  |some y=>
   rw[i]at l;cases l;exact⟨j,e,by rw[d,Nat.zero_add],v,p,z⟩
def Vp{H:Heap}{k:Nat}(m:Mem B w0 U0 β H k w){v:DV}{x:Value}(l:bg w (Own U0 β H) β H k v x){n:Nat}{f:SM}(h:vO H v=some (n,f)):
  ∃b e d,x=.map (some b)/\w.heap[b]?=some (.map e d)/\lO e d n f:=by
 unfold vO at h;split at h
 .rename_i id;split at h
  .rename_i u y z o;cases h;cases l with
   |ptr _ _ _ hid A h g=>
    obtain⟨b,c,i,rfl⟩:=g _ _ o;obtain⟨C,D,e,d,j,E,q,r⟩:=m.h.aZ id _ o;rw[i]at j;simp only[ay,bY]at j;obtain⟨rfl,rfl⟩:=j;exact⟨b,e,d,rfl,q,r⟩
  .cases h
 .cases h;cases l with|p _ _ t=>
   cases t with|map _ _ b e d i F g=>exact⟨b,e,d,rfl,i,g⟩
 .cases h
def OM{U:Nat->Prop}(c:SC):bN w U c.pv c.v:=by
 cases c<;>simp only[SC.pv,SC.v]
 .exact .int _ _
 .exact .bool _
 .exact .str _
def Wb(c:SC):c.v.oneCell'=true:=by cases c<;>rfl
def Ob{U:Nat->Prop}(y:MV):bN w U y.pv y.v:=by
 cases y with
 |one c=>exact OM c
 |agg e=>
  refine .agg _ _ az (λj p b=>?_) (λj p b=>?_);all_goals
   rw[List.getElem?_map]at b;cases d:e[j]? with
   |none=>rw[d]at b;cases b
   |some c=>
    rw[d]at b;simp only[Option.map_some,ay]at b;subst b;have:(e.map SC.v).toArray.getD j undef=c.v:=by simp[d]
    rw[this]
    first|exact Wb c|exact OM c
def wX{U:Nat->Prop}{H:Heap}{c:Nat}{p:PV}{x:Value}(b:bN w U p x):bg w U β H c (wZ p) x:=by
 cases p with
 |agg d=>exact pJ b
 |_=>exact .p _ _ b
def Uo{U:Nat->Prop}{t:TypeId}{b:PV}(h:Cb P t b=true):∃g z,P.info? t=some g/\g.zero=some z/\bN w U b z:=by
 unfold Cb at h;split at h
 .rename_i m;split at h
  .rename_i i c;split at h
   .rename_i z d;obtain⟨k,e⟩:=gi (w:=w) (U:=U) _ _ h;obtain⟨l⟩:=z;simp only at k e;refine⟨i,_,c,d,.agg m ⟨l⟩ k (λj y f=>?_) (λj y f=>?_)⟩
    .rw[ox];exact(e j y f).2
    .rw[ox];exact(e j y f).1
   .cases h
  .cases h
 .split at h
  .rename_i i c;split at h
   .rename_i z d;exact⟨i,z,c,d,(oD h).1⟩
   .cases h
  .cases h
def Ja(g:bJ B w0 U0 nt β s a w){x i:Operand}{G H:DO}(M:bK x G=true)(N:bK i H=true){t:TypeId}{o:Bool}{c:PV}
  (A:(match vi P t with|some e=>Cb P e c|none=>false)=true){v:DV}{I:Heap}{p:Nat}(m:bf cf (.iu o c G H) s=some (v,I,p)):
  ∃z,(Instr.lookup t (a.eval x) (a.eval i) o).run P w=.ok z w/\Good B w0 U0 s.heap s.next β w v I p z w:=by
 split at A
 case h_2=>cases A
 rename_i e O;obtain⟨kt,J,r⟩:=yL O;obtain⟨ie,z,Q,R,C⟩:=Uo (w:=w) (U:=Own U0 β s.heap) A;simp only[bf]at m;split at m
 case h_2=>cases m
 rename_i xv k S T;split at m
 case h_2=>cases m
 rename_i n f V;simp only[ay,bY]at m;obtain⟨rfl,rfl,rfl⟩:=m;rw[(g.ev N T).kS];obtain⟨b,es,D,W,K,E⟩:=Vp g.mem (g.ev M S) V;rw[W];have h:=wy E k;have F:∃q,(Instr.lookup t (.map (some b)) (.string k) o).run P w=.ok (if o then .tuple #[q,.bool (f k).isSome]else q) w/\bN w (Own U0 β s.heap) (FO f k c) q:=by
  cases u:f k with
  |none=>
   rw[u]at h;refine⟨z,?_,by simp only[FO,u];exact C⟩;simp[Instr.lookup,run_underlying J,MapKept.run_getObj_map K,MapKept.run_checkKey r (pB k),MapKept.run_findKey r h.1,zeroValue,typeInfo,Q,R,Result.andThen]
  |some y=>
   rw[u]at h;obtain⟨j,e',X,a2,a3,Y⟩:=h;refine⟨y.v,?_,by simp only[FO,u];exact Ob y⟩;simp[Instr.lookup,run_underlying J,MapKept.run_getObj_map K,MapKept.run_checkKey r (pB k),MapKept.run_findKey r X,Y,Result.andThen]
 obtain⟨q,Z,L⟩:=F;refine⟨_,Z,bm g.mem ?_⟩
 .cases o with
  |false=>exact wX L
  |true=>
   refine .tuple _ _ rfl λj d l=>?_
   match j,l with
   |0,l=>simp at l;subst l;exact wX L
   |1,l=>simp at l;subst l;exact .p _ _ (.bool _)
   |j+2,l=>simp at l
def OF{U:Nat->Prop}{p:PV}{c:SC}{x:Value}(h:JJ p=some c)(b:bN w U p x):x=c.v:=by
 cases p<;>simp only[JJ,ay,reduceCtorEq]at h
 all_goals subst h;cases b;rfl
def Wz{U:Nat->Prop}{H:Heap}{o:Nat}{d:DV}{y:MV}{x:Value}(h:F2 d=some y)(r:bg w U β H o d x):x=y.v:=by
 cases r with
 |p v x g=>
  simp only[F2]at h;split at h
  .rename_i c t;cases h;exact OF t g
  .cases h
 |agg e f D E u=>
  simp only[F2]at h;split at h
  .rename_i l z;cases h;obtain⟨n,b⟩:=fj z;have:f=(l.map SC.v).toArray:=by
    apply Cm;intro j;rcases bS j e.length with i|i
    .obtain⟨c,A,k⟩:=b j e[j] (List.getElem?_eq_getElem i);have m:=u j e[j] (List.getElem?_eq_getElem i);have C:f[j]?=some (f.getD j undef):=iL ae;rw[C];generalize e[j]=d at k m;generalize f.getD j undef=q at m;cases d with
     |p F=>
      cases m with
      |p _ _ g=>
      have:=OF k g;simp only[List.getElem?_toArray,List.getElem?_map,A,Option.map_some];rw[<-this]
     |_=>cases k
    .rw[ug ae];simp only[List.getElem?_toArray];rw[List.getElem?_eq_none (by simp;omega)]
   rw[this];rfl
  .cases h
 |_=>simp[F2]at h
def ow{H:Heap}{l:Nat}{id b c n r:Nat}{f t:SM}{J i:Array MapEntry}{j g:Nat}(m:Mem B w0 U0 β H l w)(p:ag H id=some (.map false (.strs n f)))(D:β id=some (b,c))
  (E:B<=b)(F:w.heap[b]?=some (.map J j))(y:lO i g r t){d:DV}{z:Value}(A:∀K q G,bg K (Own U0 q G) q G l d z):
  Good B w0 U0 H l β w d (aC H id (.map false (.strs r t))) l z {w with heap:=w.heap.setIfInBounds b (.map i g)}:=by
 have C:=aO F;have u:qE β H l w β (aC H id (.map false (.strs r t))) l {w with heap:=w.heap.setIfInBounds b (.map i g)} id (.map false (.strs r t)):=by
  refine⟨λk v=>?_,?_,rfl,λk v=>rfl,Nat.le_refl _,m.h.lt _ _ p,.inr ⟨_,p,rfl,rfl⟩,λI o h=>?_,λI L h=>.inr ⟨L,_,h,p⟩⟩
  .rw[aA,ak (λe=>v e.symm)]
  .rw[aA,aq rfl,p];rfl
  .by_cases e:b=I
   .subst e;exact .inr ⟨c,_,D,p⟩
   .left;rw[dC,ak (λx=>e x.1)];exact h
 have v:=u.keeps (U0:=U0);have M:=u.cw;exact⟨β,u.mem m (EO E _ F Fa) ⟨b,c,i,g,D,E,by rw[dC,aq ⟨rfl,C⟩],y⟩,v,M,A _ _ _⟩
def lO.WB{l:Array MapEntry}{b n:Nat}{f:SM}(h:lO l b n f){k:ByteArray}(t:f k=none)(d:∀e∈l.toList,e.key≠.string k)(y:MV):
  lO (l.push {key:=.string k,val:=y.v,born:=b}) (b+1) (n+1) (kn f k (some y)):=by
 refine⟨by simp[h.size],λe c=>?_,?_,?_,λe c=>?_,λi m o=>?_⟩
 .rw[wm,List.mem_append]at c;rcases c with c|c
  .have:=h.BV e c;omega
  .simp only[List.mem_singleton]at c;subst c;exact HF _
 .rw[wm,List.pairwise_append];refine⟨h.born,az,λx p y g=>?_⟩;simp only[List.mem_singleton]at g;subst g;have:=h.BV x p;simp only;omega
 .rw[wm,List.pairwise_append];refine⟨h.keys,az,λx p y g=>?_⟩;simp only[List.mem_singleton]at g;subst g;exact d x p
 .rw[wm,List.mem_append]at c;rcases c with c|c
  .obtain⟨i,m,j,q,r⟩:=h.to e c;refine⟨i,m,j,?_,r⟩;unfold kn;rw[ak ?_]
   .exact q
   .rintro rfl;exact d e c j
  .simp only[List.mem_singleton]at c;subst c;exact⟨k,y,rfl,by simp[kn],rfl⟩
 .unfold kn at o;split at o
  .rename_i e;subst e;exact⟨{key:=.string i,val:=y.v,born:=b},by rw[wm];simp,rfl⟩
  .obtain⟨e,c,j⟩:=h.from_ i m o;exact⟨e,by rw[wm];simp[c],j⟩
def lO.WO{c:Array MapEntry}{d n:Nat}{f:SM}(h:lO c d n f){k:ByteArray}{j:Nat}{x:MapEntry}(r:c[j]?=some x)(l:x.key=.string k)(y:MV):
  lO (c.modify j λe=>{e with key:=.string k,val:=y.v}) d n (kn f k (some y)):=by
 have b:∀i,(c.modify j λe=>{e with key:=.string k,val:=y.v})[i]?=if j=i then some {x with key:=.string k,val:=y.v}else c[i]?:=by
  intro i;rw[H0];split
  .rename_i e;subst e;rw[r];rfl
  .rfl
 have m:(c.modify j λe=>{e with key:=.string k,val:=y.v}).toList.map (·.key)=c.toList.map (·.key):=by
  apply List.ext_getElem?;intro i;rw[List.getElem?_map,List.getElem?_map,eG,eG,b];split
  .rename_i e;subst e;rw[r];simp[l]
  .rfl
 have F:=Gu ⟨h.BV,h.born⟩ r (k:=.string k) (v:=y.v);refine⟨by simp[h.size],F.1,F.2,?_,λe A=>?_,λC D E=>?_⟩
 .have z:(c.toList.map (·.key)).Pairwise (·≠·):=List.pairwise_map.2 h.keys;rw[<-m]at z;exact List.pairwise_map.1 z
 .obtain⟨i,g⟩:=List.getElem?_of_mem A;rw[eG,b]at g;split at g
  .cases g;exact⟨k,y,rfl,by simp[kn],rfl⟩
  .rename_i o;obtain⟨C,D,p,z,J⟩:=h.to e (List.mem_of_getElem? (by rw[eG];exact g));refine⟨C,D,p,?_,J⟩;unfold kn;rw[ak ?_]
   .exact z
   .rintro rfl;apply o;have G:=List.pairwise_iff_getElem.1 h.keys;have t:j<c.toList.length:=by rw[jV];exact(wC.1 r).1
    have u:i<c.toList.length:=by rw[jV];exact(wC.1 g).1
    have H:c.toList[j]=x:=by
     have:=(wC.1 r).2;simpa using this
    have I:c.toList[i]=e:=by
     have:=(wC.1 g).2;simpa using this
    rcases Dt j i with q|rfl|q
    .exact absurd (by rw[H,I,l,p]) (G j i t u q)
    .rfl
    .exact absurd (by rw[H,I,l,p]) (G i j u t q)
 .unfold kn at E;split at E
  .rename_i e;subst e;exact⟨_,List.mem_of_getElem? (i:=j) (by rw[eG,b,aq rfl]),rfl⟩
  .rename_i o;obtain⟨e,A,p⟩:=h.from_ C D E;obtain⟨i,g⟩:=List.getElem?_of_mem A;refine⟨e,List.mem_of_getElem? (i:=i) ?_,p⟩;rw[eG,b,ak ?_]
   .rw[<-eG];exact g
   .rintro rfl;rw[eG,r]at g;cases g;rw[l]at p;cases p;exact o rfl
def lO.erased{c:Array MapEntry}{d n:Nat}{f:SM}(h:lO c d n f){k:ByteArray}{j:Nat}{x:MapEntry}(y:c[j]?=some x)(q:x.key=.string k):
  lO (c.eraseIdxIfInBounds j) d (n-1) (kn f k none):=by
 have g:j<c.size:=(wC.1 y).1;have u:(c.eraseIdxIfInBounds j).toList=c.toList.eraseIdx j:=by
  simp[Array.eraseIdxIfInBounds,g]
 have b:(c.toList.eraseIdx j).Sublist c.toList:=List.eraseIdx_sublist _ _;have E:=List.pairwise_iff_getElem.1 h.keys;have F:c.toList[j]'(by simpa using g)=x:=by
  have:=(wC.1 y).2;simpa using this
 have o:∀e∈c.toList.eraseIdx j,e∈c.toList/\e.key≠.string k:=by
  intro e m;refine⟨b.subset m,λr=>?_⟩;obtain⟨i,l⟩:=List.getElem?_of_mem m;rw[List.getElem?_eraseIdx]at l;split at l
  .rename_i p;have t:=(List.getElem?_eq_some_iff.1 l).1;have z:=(List.getElem?_eq_some_iff.1 l).2;exact E i j t (by simpa using g) p (by rw[z,F,r,q])
  .rename_i p;have t:=(List.getElem?_eq_some_iff.1 l).1;have z:=(List.getElem?_eq_some_iff.1 l).2;exact E j (i+1) (by simpa using g) t ae (by rw[z,F,r,q])
 refine⟨?_,λe m=>?_,?_,?_,λe m=>?_,λA C r=>?_⟩
 .rw[<-jV,u,List.length_eraseIdx,aq (by simpa using g),jV,h.size]
 .rw[u]at m;exact h.BV e (b.subset m)
 .rw[u];exact h.born.sublist b
 .rw[u];exact h.keys.sublist b
 .rw[u]at m;obtain⟨v,H⟩:=o e m;obtain⟨A,C,G,I,J⟩:=h.to e v;refine⟨A,C,G,?_,J⟩;unfold kn;rw[ak ?_]
  .exact I
  .rintro rfl;exact H G
 .unfold kn at r;split at r
  .cases r
  .rename_i D;obtain⟨e,m,v⟩:=h.from_ A C r;refine⟨e,?_,v⟩;rw[u];obtain⟨i,l⟩:=List.getElem?_of_mem m;have K:i≠j:=by
    rintro rfl;rw[eG,y]at l;cases l;rw[q]at v;cases v;exact D rfl
   rcases bS i j with p|L
   .exact List.mem_of_getElem? (i:=i) (by rw[List.getElem?_eraseIdx,aq p];exact l)
   .exact List.mem_of_getElem? (i:=i-1) (by rw[List.getElem?_eraseIdx,ak ae,show i-1+1=i from ae];exact l)
def Gj{H:Heap}{i:Nat}(m:Mem B w0 U0 β H i w){id:Nat}{x:Value}(l:bg w (Own U0 β H) β H i (.ptr id 0) x){o:Bool}{n:Nat}{f:SM}(j:ag H id=some (.map o (.strs n f))):
  ∃b c e d,β id=some (b,c)/\x=.map (some b)/\B<=b/\w.heap[b]?=some (.map e d)/\lO e d n f:=by
 cases l with
 |ptr _ _ _ hid u h p=>
  obtain⟨b,c,k,rfl⟩:=p _ _ j;obtain⟨v,y,e,d,g,q,r,t⟩:=m.h.aZ id _ j;rw[k]at g;simp only[ay,bY]at g;obtain⟨rfl,rfl⟩:=g;exact⟨b,c,e,d,k,rfl,q,r,t⟩
def Lo(g:bJ B w0 U0 nt β s a w){x i u:Operand}{D E F:DO}(M:bK x D=true)(N:bK i E=true)(O:bK u F=true){t:TypeId}
  (Q:(vi P t).isSome=true){v:DV}{G:Heap}{p:Nat}(l:bf cf (.jw D E F) s=some (v,G,p)):
  ∃H,(Instr.mapUpdate t (a.eval x) (a.eval i) (a.eval u)).run P w=.ok () H/\Good B w0 U0 s.heap s.next β w v G p undef H:=by
 obtain⟨X,R⟩:=sG.1 Q;obtain⟨Y,I,q⟩:=yL R;simp only[bf]at l;split at l
 case h_2=>cases l
 rename_i id k d S T U;split at l
 case h_2=>cases l
 rename_i n f y r V;simp only[ay,bY]at l;obtain⟨rfl,rfl,rfl⟩:=l;rw[(g.ev N T).kS,Wz V (g.ev O U)];obtain⟨b,c,Z,z,J,A,K,o,m⟩:=Gj g.mem (g.ev M S) r;rw[A];have h:=wy m k;cases C:f k with
 |none=>
  rw[C]at h;simp only[Option.isSome_none,Bool.false_eq_true,cK];refine⟨_,?_,ow g.mem r J K o (m.WB C h.2 y) (λ_ _ _=>.undef)⟩;simp[Instr.mapUpdate,run_underlying I,MapKept.run_getObj_map o,MapKept.run_checkKey q (pB k),MapKept.run_findKey q h.1,MapKept.run_setObj_map _ o,Result.andThen]
 |some y0=>
  rw[C]at h;obtain⟨j,e,W,L,a3,a4⟩:=h;simp only[Option.isSome_some,cQ];refine⟨_,?_,ow g.mem r J K o (m.WO L a3 y) (λ_ _ _=>.undef)⟩;simp[Instr.mapUpdate,run_underlying I,MapKept.run_getObj_map o,MapKept.run_checkKey q (pB k),MapKept.run_findKey q W,L,a3,MapKept.run_keyThatStays (pB k),MapKept.run_setObj_map _ o,Result.andThen]
def J1(g:bJ B w0 U0 nt β s a w){x i:Operand}{G H:DO}(M:bK x G=true)(N:bK i H=true){t t2 ty:TypeId}
  (O:uY P t=true){v:DV}{p:Heap}{r:Nat}(h:bf cf (.oR G H) s=some (v,p,r)):
  ∃z y,(Builtin.delete_ #[t,t2] ty #[a.eval x,a.eval i]).run P w=.ok z y/\Good B w0 U0 s.heap s.next β w v p r z y:=by
 obtain⟨U,V,I,A⟩:=yD O;simp only[bf]at h;split at h
 case h_2=>cases h
 rename_i id k Q R;split at h
 case h_2=>cases h
 rename_i n f C;simp only[ay,bY]at h;obtain⟨rfl,rfl,rfl⟩:=h;rw[(g.ev N R).kS];obtain⟨b,c,W,D,J,E,K,o,l⟩:=Gj g.mem (g.ev M Q) C;rw[E];have d:=wy l k;have L:∀(y:World) (u:Place) (p:Heap),bg y (Own U0 u p) u p s.next (.tuple []) (.tuple #[]):=λ_ _ _=>.tuple [] _ rfl az
 cases F:f k with
 |none=>
  rw[F]at d;simp only[Option.isSome_none,Bool.false_eq_true,cK];have m:kn f k none=f:=by
   funext q;unfold kn;split
   .rename_i e;subst e;exact F.symm
   .rfl
  rw[m];refine⟨.tuple #[],_,?_,ow g.mem C J K o l L⟩;simp[Builtin.delete_,run_underlying I,MapKept.run_getObj_map o,MapKept.run_checkKey A (pB k),MapKept.run_findKey A d.1,MapKept.run_setObj_map _ o,Result.andThen]
 |some X=>
  rw[F]at d;obtain⟨j,e,S,T,a3,Y⟩:=d;simp only[Option.isSome_some,cQ];refine⟨.tuple #[],_,?_,ow g.mem C J K o (l.erased T a3) L⟩;simp[Builtin.delete_,run_underlying I,MapKept.run_getObj_map o,MapKept.run_checkKey A (pB k),MapKept.run_findKey A S,MapKept.run_setObj_map _ o,Result.andThen]
def Jb(g:bJ B w0 U0 nt β s a w){f:FuncId}{c:Array Operand}{b:List DO}(j:kQ c.toList b=true){v:DV}{i:Heap}{d:Nat}(e:bf cf (.pk f b) s=some (v,i,d)):
  Good B w0 U0 s.heap s.next β w v i d (.func (.func f) (c.map a.eval) #[]) w:=by
 simp only[bf]at e;cases h:gH s b with
 |none=>rw[h]at e;cases e
 |some l=>
  rw[h]at e;cases e;obtain⟨k,m⟩:=qe g j h;exact bm g.mem (.kK f l _ k m)
def Kb(g:bJ B w0 U0 nt β s a w){x:Operand}{e:DO}(i:bK x e=true){t:TypeId}{v:DV}{f:Heap}{c:Nat}(b:bf cf (.ll t e) s=some (v,f,c)):
  Good B w0 U0 s.heap s.next β w v f c (.iface t (a.eval x)) w:=by
 simp only[bf]at b;split at b
 case h_2=>cases b
 rename_i h j;split at b
 case h_2=>cases b
 rename_i p k;split at b
 case isFalse=>cases b
 rename_i l;cases b;have d:fg s.heap dep h=[]:=by simpa using l
 have:=ra g.mem [] dep h p _ k (by rw[d];simp) (g.ev i j);exact bm g.mem (.p _ _ (.iface t p _ this))
end
end
section
open Go.RowKit
section
variable{P:Program}{B:Nat}{w0:World}{U0:Nat->Prop}{β:Place}{w:World}{nt:Cx}{s:St}{a:Act}{cf:aK}
def jy{b:Builtin}{c:Call}(f:isBuiltin c b=true){i:Option Tmp}{d:TypeId}{pos:String}{e:Array Edge}{guard:Option (Nat×Bool)}:
  (execOp a.eval ⟨i,.call c,d,pos,e,guard⟩).run P w=(builtin b c.argTypes d (c.args.map λ| .const _=>true|_=>false) (c.args.map a.eval)).run P w:=by
 unfold isBuiltin at f;obtain⟨h,args,g⟩:=c;simp only at f⊢;split at f
 .simp only[df]at f;subst f;simp only[execOp,resolve,Sem.run_bind,Sem.run_pure,Result.andThen_ok,invoke];rfl
 .cases f
def qP{g:Operand}{args:Array Operand}{d:Array TypeId}{e:Option Tmp}{c:TypeId}{pos:String}{b:Array Edge}{guard:Option (Nat×Bool)}{f:FuncId}{caps:Array Value}(h:a.eval g=.func (.func f) #[] caps):
  (execOp a.eval ⟨e,.call ⟨.value g,args,d⟩,c,pos,b,guard⟩).run P w=(callFunc f (args.map a.eval++caps)).run P w:=by
 simp only[execOp,resolve,Deferred.ofValue,h,Sem.run_bind,Sem.run_pure,Result.andThen_ok,invoke,Array.empty_append]
def AM{g:Operand}{args:Array Operand}{d:Array TypeId}{e:Option Tmp}{c:TypeId}{pos:String}{b:Array Edge}{guard:Option (Nat×Bool)}{f:FuncId}{first:Array Value}(h:a.eval g=.func (.func f) first #[]):
  (execOp a.eval ⟨e,.call ⟨.value g,args,d⟩,c,pos,b,guard⟩).run P w=(callFunc f (first++args.map a.eval)).run P w:=by
 simp only[execOp,resolve,Deferred.ofValue,h,Sem.run_bind,Sem.run_pure,Result.andThen_ok,invoke,HE]
def xH{l r:Array Value}{j:Nat}:(l++r).getD j undef=if j<l.size then l.getD j undef else r.getD (j-l.size) undef:=by
 by_cases h:j<l.size
 .rw[aq h,dH,dH,AY,aq h]
 .rw[ak h,dH,dH,AY,ak h]
def Ji(hc:bV P cf)(g:bJ B w0 U0 nt β s a w){c:Call}{d:dX}(e:su P c d=true){Y:Option Tmp}{k:TypeId}{pos:String}{R:Array Edge}{guard:Option (Nat×Bool)}{v:DV}{H':Heap}{Z:Nat}(m:bf cf d s=some (v,H',Z))
  {K:Act->World->Prop}{Q:Exit->Act->World->Prop}(N:∀x O,Good B w0 U0 s.heap s.next β w v H' Z x O->K (a.put Y x) O):(⟨Y,.call c,k,pos,R,guard⟩:Oper).wp P a w K Q:=by
 unfold su at e;split at e
 ·
  rename_i bytes sz s' x';simp only[aL]at e;obtain⟨A,e⟩:=e;split at e
  .rename_i x y t U b o;simp only[aL]at e;obtain⟨z,O,C,E⟩:=KW (ty:=k) g e.1.1 e.1.2 e.2 m;refine fi (x:=z) (w':=O) ?_ (N _ _ E);have I:c.args=#[x,y]:=by rw[<-lP (xs:=c.args),b]
   have J:c.argTypes=#[t,U]:=by rw[<-lP (xs:=c.argTypes),o]
   rw[jy A,I,J];simp only[builtin,Sem.run_bind,List.map_toArray,List.map_cons,List.map_nil,C,Result.andThen_ok,Sem.run_pure]
  .cases e
 ·
  rename_i bytes sz s' x';simp only[aL]at e;obtain⟨A,e⟩:=e;split at e
  .rename_i x y t U b o;simp only[aL]at e;obtain⟨z,O,C,E⟩:=GI (ty:=k) g e.1.1 e.1.2 e.2 m;refine fi (x:=z) (w':=O) ?_ (N _ _ E);have I:c.args=#[x,y]:=by rw[<-lP (xs:=c.args),b]
   have J:c.argTypes=#[t,U]:=by rw[<-lP (xs:=c.argTypes),o]
   rw[jy A,I,J];simp only[builtin,Sem.run_bind,List.map_toArray,List.map_cons,List.map_nil,C,Result.andThen_ok,Sem.run_pure]
  .cases e
 ·
  rename_i f' r;simp only[aL]at e;obtain⟨D,b⟩:=e;obtain⟨H,args,x1⟩:=c;simp only at D b;split at D
  .rename_i f;simp only[cH]at D;subst D;simp only[bf]at m;cases F:gH s r with
   |none=>rw[F]at m;cases m
   |some l=>
    rw[F]at m;simp only at m;cases A:cf.dq f l s.heap s.next with
    |none=>rw[A]at m;cases m
    |some q=>
     obtain⟨v1,H1,n1⟩:=q;rw[A]at m;simp only at m;split at m
     case isFalse=>cases m
     cases m;obtain⟨W,h2⟩:=qe g b F;obtain⟨u,h⟩:=zB (dq:=true) hc g.mem (by simp only[jk,cQ];exact A) W h2;refine vB (f:=f) (args:=args.map a.eval) ?_ h N;rw[qP (f:=f) (caps:=#[]) rfl,HE];exact ku u _
  .cases D
 ·
  rename_i sz s' x';simp only[aL]at e;obtain⟨A,e⟩:=e;split at e
  .rename_i x y t U b o;simp only[aL]at e;obtain⟨z,O,C,E⟩:=QK (t2:=U) (ty:=k) g e.1.1 e.1.2 e.2 m;refine fi (x:=z) (w':=O) ?_ (N _ _ E);have I:c.args=#[x,y]:=by rw[<-lP (xs:=c.args),b]
   have J:c.argTypes=#[t,U]:=by rw[<-lP (xs:=c.argTypes),o]
   rw[jy A,I,J];simp only[builtin,Sem.run_bind,List.map_toArray,List.map_cons,List.map_nil,C,Result.andThen_ok,Sem.run_pure]
  .cases e
 ·
  rename_i x';simp only[aL]at e;obtain⟨A,e⟩:=e;split at e
  .rename_i x t b o;simp only[aL]at e;obtain⟨z,C,E⟩:=Vw (ty:=k) g e.1 e.2 m;refine fi (x:=z) (w':=w) ?_ (N _ _ E);have I:c.args=#[x]:=by rw[<-lP (xs:=c.args),b]
   have J:c.argTypes=#[t]:=by rw[<-lP (xs:=c.argTypes),o]
   rw[jy A,I,J];simp only[builtin,Sem.run_bind,List.map_toArray,List.map_cons,List.map_nil,C,Result.andThen_ok,Sem.run_pure]
  .cases e
 .rename_i x';simp only[aL]at e;obtain⟨A,e⟩:=e;split at e
  .rename_i x t b o;simp only[aL]at e;obtain⟨z,C,E⟩:=Q2 (ty:=k) g e.1 e.2 m;refine fi (x:=z) (w':=w) ?_ (N _ _ E);have I:c.args=#[x]:=by rw[<-lP (xs:=c.args),b]
   have J:c.argTypes=#[t]:=by rw[<-lP (xs:=c.argTypes),o]
   rw[jy A,I,J];simp only[builtin,Sem.run_bind,List.map_toArray,List.map_cons,List.map_nil,C,Result.andThen_ok,Sem.run_pure]
  .cases e
 ·
  rename_i xe x';simp only[aL]at e;obtain⟨A,e⟩:=e;split at e
  .rename_i x t b o;simp only[aL]at e;obtain⟨z,O,C,E⟩:=Na (ty:=k) g e.1 e.2 m;refine fi (x:=z) (w':=O) ?_ (N _ _ E);have I:c.args=#[x]:=by rw[<-lP (xs:=c.args),b]
   have J:c.argTypes=#[t]:=by rw[<-lP (xs:=c.argTypes),o]
   rw[jy A,I,J];simp only[builtin,Sem.run_bind,List.map_toArray,List.map_cons,List.map_nil,C,Result.andThen_ok,Sem.run_pure]
  .cases e
 ·
  rename_i x3 x' xi;simp only[aL]at e;obtain⟨A,e⟩:=e;obtain⟨z,C,E⟩:=Xh (P:=P) (at_:=c.argTypes) (ty:=k) g e m;refine fi (x:=z) (w':=w) ?_ (N _ _ E);rw[jy A];cases x3
  .simp only[Bool.false_eq_true,cK]at C⊢;simp only[builtin,Sem.run_bind,C,Result.andThen_ok,Sem.run_pure]
  .simp only[cQ]at C⊢;simp only[builtin,Sem.run_bind,C,Result.andThen_ok,Sem.run_pure]
 ·
  rename_i x' i';simp only[aL]at e;obtain⟨A,e⟩:=e;split at e
  .rename_i x i t U b o;simp only[aL]at e;obtain⟨z,O,C,E⟩:=J1 (ty:=k) (t2:=U) g e.1.1 e.1.2 e.2 m;refine fi (x:=z) (w':=O) ?_ (N _ _ E);have I:c.args=#[x,i]:=by rw[<-lP (xs:=c.args),b]
   have J:c.argTypes=#[t,U]:=by rw[<-lP (xs:=c.argTypes),o]
   rw[jy A,I,J];simp only[builtin,Sem.run_bind,List.map_toArray,List.map_cons,List.map_nil,C,Result.andThen_ok,Sem.run_pure]
  .cases e
 ·
  rename_i S f' r;simp only[aL]at e;obtain⟨D,b⟩:=e;obtain⟨H,args,x1⟩:=c;simp only at D b;split at D
  .rename_i f;simp only[cH]at D;subst D;simp only[bf]at m;cases F:gH s r with
   |none=>rw[F]at m;cases m
   |some l=>
    rw[F]at m;obtain⟨W,h2⟩:=qe g b F;obtain⟨u,h⟩:=zB hc g.mem m W h2;refine vB (f:=f) (args:=args.map a.eval) ?_ h N;rw[qP (f:=f) (caps:=#[]) rfl,HE];exact ku u _
  .cases D
 ·
  rename_i S xj r;simp only[aL]at e;obtain⟨D,b⟩:=e;obtain⟨H,args,x1⟩:=c;simp only at D b;split at D
  .rename_i fv;have go:∀(f:FuncId) (n:List DV) (l:List DV),gH s r=some l->jk cf S f (l++n) s.heap s.next=some (v,H',Z)->(∃L:Array Value,a.eval fv=.func (.func f) #[] L/\L.size=n.length/\∀(j:Nat) (y:DV),n[j]?=some y->bg w (Own U0 β s.heap) β s.heap s.next y (L.getD j undef))->
     (⟨Y,.call ⟨.value fv,args,x1⟩,k,pos,R,guard⟩:Oper).wp P a w K Q:=by
    rintro f n l F xb ⟨L,he,M,G⟩;obtain⟨W,h2⟩:=qe g b F;obtain⟨u,h⟩:=zB hc g.mem xb (vs:=args.map a.eval++L) (by simp;simp at W;omega) (λj d V=>by
     rw[xH];by_cases x4:j<l.length
     .rw[List.getElem?_append_left x4]at V;rw[aq ae];exact h2 j d V
     .rw[List.getElem?_append_right ae]at V;rw[ak ae,W];exact G _ d V)
    refine vB (f:=f) (args:=args.map a.eval++L) ?_ h N;rw[qP he];exact ku u _
   simp only[bf]at m;split at m
   .rename_i f n l hv F;have X:=g.ev D hv;generalize T:a.eval fv=xv at X;cases X with|func _ _ L M G=>
    exact go f n l F m ⟨L,T,M,G⟩
   .rename_i f n l hv F;have X:=g.ev D hv;generalize T:a.eval fv=xv at X;cases X with|p _ _ hp=>
    cases hp with|func _ _ L M G=>
    refine go f (n.map aI) l F m ⟨L,T,by simpa using M,λj y hy=>?_⟩;rw[List.getElem?_map]at hy;cases x5:n[j]? with
    |none=>rw[x5]at hy;cases hy
    |some q=>rw[x5]at hy;simp only[Option.map_some,ay]at hy;subst hy;exact pJ (G j q x5)
   ·
    rename_i f first l hv F
    have X:=g.ev D hv;generalize T:a.eval fv=xv at X;cases X with|kK _ _ L M G=>
    obtain⟨W,h2⟩:=qe g b F;obtain⟨u,h⟩:=zB hc g.mem m (vs:=L++args.map a.eval) (by simp;simp at W;omega) (λj d V=>by
     rw[xH];by_cases x4:j<first.length
     .rw[List.getElem?_append_left x4]at V;rw[aq ae];exact G j d V
     .rw[List.getElem?_append_right ae]at V;rw[ak ae,M];exact h2 _ d V)
    refine vB (f:=f) (args:=L++args.map a.eval) ?_ h N;rw[AM T];exact ku u _
   .cases m
  .cases D
 .cases e
set_option maxHeartbeats 1000000 in
theorem PO(hc:bV P cf)(g:bJ B w0 U0 nt β s a w){o:Oper}{d:dX}(b:oM P o.op d=true){v:DV}{H':Heap}{V:Nat}(c:bf cf d s=some (v,H',V)){K:Act->World->Prop}{Q:Exit->Act->World->Prop}
  (j:∀x J,Good B w0 U0 s.heap s.next β w v H' V x J->K (a.put o.dst x) J):o.wp P a w K Q:=by
 obtain⟨W,op,L,pos,D,guard⟩:=o;simp only at b j;unfold oM at b;split at b
 .rename_i x d;simp only[bf]at c;cases r:s.ev d with
  |none=>rw[r]at c;cases c
  |some q=>rw[r]at c;cases c;exact fi rfl (j _ _ (bm g.mem (g.ev b r)))
 .rename_i x d;simp only[bf]at c;cases r:s.ev d with
  |none=>rw[r]at c;cases c
  |some q=>rw[r]at c;cases c;exact fi rfl (j _ _ (bm g.mem (g.ev b r)))
 .simp only[aL]at b;obtain⟨z,f,h⟩:=SY (P:=P) g b.1.1 b.1.2 b.2 (o:=⟨W,_,L,pos,D,guard⟩) rfl c;exact fi f (j _ _ h)
 ·
  rename_i t E;simp only[bf]at c;split at c
  case h_2=>cases c
  simp only[ay,bY]at c;obtain⟨rfl,rfl,rfl⟩:=c;obtain⟨i,z,hi,hz,x0,xg⟩:=lG b;have X:=Bo (w:=w) (β:=β) (H:=s.heap) (nx:=s.next) x0 (U:=Own U0 β s.heap);refine lL (sm:=Instr.alloc t true (.tuple #[])) (y:=.pointer (some ⟨w.heap.size,0,none⟩)) (w':=w.alloc (.cells z.cells t)) rfl ?_ (j _ _ (uD g.mem _ _ _ X.1 X.2));simp[Instr.alloc,zeroValue,typeInfo,hi,hz,newVar,newRow]
 ·
  rename_i t x d;simp only[bf]at c;cases r:s.ev d with
  |none=>rw[r]at c;cases c
  |some q=>
   rw[r]at c;simp only at c;cases u:q.cells with
   |none=>rw[u]at c;cases c
   |some cs=>
    rw[u]at c;split at c
    case h_2=>cases c
    cases c;rename_i M _;cases M;obtain⟨k,m⟩:=rU u (g.ev b r);refine lL (sm:=Instr.box t (a.eval x)) (y:=.pointer (some ⟨w.heap.size,0,none⟩)) (w':=w.alloc (.cells (a.eval x).cells t)) rfl ?_ (j _ _ (uD g.mem _ _ _ k m));simp[Instr.box,newVar,newRow]
 ·
  simp only[aL]at b;obtain⟨z,f,h⟩:=QX g b.1 b.2 c;exact lL rfl f (j _ _ h)
 ·
  rename_i t x1 n E xa ps;cases A:bZ P t with
  |none=>rw[A]at b;cases b
  |some e=>
  rw[A]at b;simp only[aL,df,cH]at b;obtain⟨⟨⟨⟨⟨N,F⟩,O⟩,rfl⟩,x2⟩,Y⟩:=b;simp only[bf]at c;cases hl:ja s ps with
  |none=>rw[hl]at c;cases c
  |some l=>
  rw[hl]at c;simp only at c;cases hx:dv s.heap E.length 0 l with
  |none=>rw[hx]at c;cases c
  |some xs=>
  rw[hx]at c;cases c;obtain⟨k,m⟩:=KS g n.toList ps l x2 hl;obtain⟨y,J,f,h⟩:=C9 (P:=P) (eP A) N F O g.mem (parts:=n.map λp=>(p.1,a.eval p.2)) (by rw[AK];exact m) ae hx;exact lL rfl f (j _ _ h)
 ·
  rename_i t x1 n E x';simp only[aL,cH]at b;obtain⟨⟨rfl,hp⟩,b⟩:=b;cases A:bZ P t with
  |none=>rw[A]at b;cases b
  |some e=>
  rw[A]at b;simp only[aL,df]at b;obtain⟨⟨N,F⟩,O⟩:=b;split at hp
  case h_2=>cases hp
  rename_i x Y;simp only[bf]at c;cases r:s.ev x' with
  |none=>rw[r]at c;cases c
  |some q=>
  rw[r]at c;simp only at c;cases u:q.cells with
  |none=>rw[u]at c;cases c
  |some cs=>
  rw[u]at c;split at c
  case h_2=>cases c
  rename_i M _;cases M;split at c
  case isFalse=>cases c
  rename_i x7;cases c;obtain⟨y,J,f,h⟩:=BR (P:=P) (eP A) N F O g.mem (g.ev hp r) u x7 (parts:=n.map λp=>(p.1,a.eval p.2)) (by rw[AK,Y];rfl)
  exact lL rfl f (j _ _ h)
 .simp only[aL]at b;obtain⟨y,f,h⟩:=R6 g b.1 b.2 c;exact lL rfl f (j _ _ h)
 .simp only[aL]at b;obtain⟨J,f,h⟩:=Q1 g b.1.1 b.1.2 b.2 c;exact Xz rfl f (j _ _ h)
 .obtain⟨z,f,h⟩:=Gx (P:=P) g b (o:=⟨W,_,L,pos,D,guard⟩) rfl c;exact fi f (j _ _ h)
 .simp only[aL,df]at b;obtain⟨⟨rfl,m⟩,C⟩:=b;obtain⟨z,f,h⟩:=RR (P:=P) g m C _ c;exact lL rfl f (j _ _ h)
 ·
  rename_i op t x y ty x';simp only[aL,df]at b;obtain⟨⟨⟨rfl,m⟩,C⟩,R⟩:=b;obtain⟨z,f,h⟩:=QH (P:=P) g m C R c;exact lL rfl f (j _ _ h)
 .simp only[aL]at b;obtain⟨⟨⟨k,m⟩,C⟩,R⟩:=b;obtain⟨z,f,h⟩:=TY (P:=P) g k m C R c;exact lL rfl f (j _ _ h)
 .simp only[aL]at b;obtain⟨⟨⟨k,m⟩,C⟩,R⟩:=b;obtain⟨z,f,h⟩:=M6 (P:=P) g k m C R c;exact lL rfl f (j _ _ h)
 .simp only[aL,df]at b;obtain⟨rfl,m⟩:=b;obtain⟨z,f,h⟩:=Xk (P:=P) g m c;exact lL rfl f (j _ _ h)
 .simp only[aL]at b;obtain⟨z,f,h⟩:=Pp (P:=P) g b.1.1 b.1.2 b.2 c;exact lL rfl f (j _ _ h)
 .simp only[aL]at b;obtain⟨⟨⟨⟨⟨k,m⟩,C⟩,R⟩,h5⟩,h6⟩:=b;obtain⟨z,J,f,h⟩:=Nx (P:=P) g k m C R h5 h6 c;exact lL rfl f (j _ _ h)
 .simp only[aL]at b;obtain⟨z,f,h⟩:=CF (P:=P) g b.1 b.2 c;exact lL rfl f (j _ _ h)
 .simp only[aL]at b;obtain⟨z,f,h⟩:=Ct (P:=P) g b.1.1 b.1.2 b.2 c;exact lL rfl f (j _ _ h)
 .simp only[aL]at b;obtain⟨z,f,h⟩:=Hl (P:=P) g b.1.1 b.1.2 b.2 c;exact lL rfl f (j _ _ h)
 .simp only[aL]at b;obtain⟨z,f,h⟩:=Mh (P:=P) g b.1.1 b.1.2 b.2 c;exact lL rfl f (j _ _ h)
 .simp only[aL,cH]at b;obtain⟨k,rfl⟩:=b;obtain⟨z,f,h⟩:=GA (P:=P) g k c;exact lL rfl f (j _ _ h)
 .simp only[aL]at b;obtain⟨z,J,f,h⟩:=QP (P:=P) g b.1.1 b.1.2 b.2 c;exact lL rfl f (j _ _ h)
 ·
  rename_i t;simp only[bf]at c;split at c
  case h_2=>cases c
  simp only[ay,bY]at c;obtain⟨rfl,rfl,rfl⟩:=c;refine lL (sm:=Instr.makeMap t none) (y:=.map (some w.heap.size)) (w':=w.alloc (.map #[] 0)) rfl ?_ (j _ _ (Rt g.mem));simp[Instr.makeMap,Result.andThen]
 .simp only[aL,cH]at b;obtain⟨⟨⟨rfl,k⟩,m⟩,C⟩:=b;obtain⟨z,f,h⟩:=Ja (P:=P) g k m C c;exact lL rfl f (j _ _ h)
 .simp only[aL]at b;obtain⟨J,f,h⟩:=Lo (P:=P) g b.1.1.1 b.1.1.2 b.1.2 b.2 c;exact Xz rfl f (j _ _ h)
 .rename_i fn first G f' S
  simp only[aL]at b;obtain⟨⟨k,m⟩,C⟩:=b;split at k
  .simp only[cH]at k;subst k;have T:G=#[]:=by
    rw[<-lP (xs:=G),List.isEmpty_iff.1 m]
   subst T;exact fi (by simp[execOp,Instr.makeFunc]) (j _ _ (Jb g C c))
  .cases k
 ·
  rename_i t x t' x';simp only[aL,cH]at b;obtain⟨⟨rfl,k⟩,m⟩:=b;have hu:∃Z,P.underlying t=some (.struct Z):=by
   split at m
   .rename_i Z hf;exact⟨Z,hf⟩
   .cases m
  obtain⟨Z,hu⟩:=hu;refine lL (sm:=Instr.makeInterface t (a.eval x)) (y:=.iface t (a.eval x)) (w':=w) rfl ?_ (j _ _ (Kb g k c));simp[Instr.makeInterface,run_underlying hu,Result.andThen]
 .rename_i fn first G f' S
  simp only[aL]at b;obtain⟨⟨k,m⟩,C⟩:=b;split at k
  .simp only[cH]at k;subst k;have I:first=#[]:=by
    rw[<-lP (xs:=first),List.isEmpty_iff.1 m]
   subst I;exact fi (by simp[execOp,Instr.makeFunc]) (j _ _ (Jd g C c))
  .cases k
 .exact Ji hc g b c j
 .cases b
end
end
end Go.Dv
