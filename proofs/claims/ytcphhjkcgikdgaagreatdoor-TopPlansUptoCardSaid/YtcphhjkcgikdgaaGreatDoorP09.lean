/- Lemmas for the law of this claim. -/
import Derived.Test.YtcphhjkcgikdgaaGreatDoorP08
set_option linter.all false
namespace Go.Dv
section
open Go.RowKit
section
variable{P:Program}{B:Nat}{w0:World}{U0:Nat->Prop}{β:Place}{w:World}{nt:Cx}{s:St}{a:Act}{cf:aI}
def xK{t e:TypeId}(h:uq P t=some e):∃b,P.underlying t=some (.map b e)/\P.underlying b=some .string:=by
 unfold uq at h;split at h
 .rename_i b f c;split at h
  .rename_i d;cases h;exact⟨b,c,d⟩
  .cases h
 .cases h
def sg{t:TypeId}(h:pW P t=true):∃b c,P.underlying t=some (.map b c)/\P.underlying b=some .string:=by
 unfold pW at h;split at h
 .rename_i b c d;exact⟨b,c,d,oN h⟩
 .cases h
def oS(k:ByteArray):MapKept.IsKey .string (.string k):=trivial
def wx{b:Array MapEntry}{c n:Nat}{f:SM}(h:ly b c n f)(k:ByteArray):match f k with
  |none=>Instr.findNow .string (.string k) b.toList 0=some none/\∀e∈b.toList,e.key≠.string k
  |some y=>∃j e,Instr.findNow .string (.string k) b.toList 0=some (some (j,e.val))/\b[j]?=some e/\e.key=.string k/\e.val=y.v:=by
 have m:∀x∈b.toList,MapKept.IsKey .string x.key:=λx r=>by
  obtain⟨o,y,d,_⟩:=h.to x r;rw[d];exact oS o
 rcases MapKept.findNow_spec (oS k) b.toList 0 m with⟨d,g⟩|⟨j,e,d,g,p⟩
 .cases i:f k with
  |none=>exact⟨d,g⟩
  |some y=>
   obtain⟨e,t,u⟩:=h.from_ k y i;exact absurd u (g e t)
 .have v:b[j]?=some e:=by simpa using g
  obtain⟨o,A,q,l,z⟩:=h.to e (List.mem_of_getElem? g);rw[p]at q;cases q;cases i:f k with
  |none=>rw[i]at l;cases l
  |some y=>
   rw[i]at l;cases l;exact⟨j,e,by rw[d,Nat.zero_add],v,p,z⟩
def Km{H:Heap}{k:Nat}(m:Mem B w0 U0 β H k w){v:DV}{x:Value}(l:bj w (Own U0 β H) β H k v x){n:Nat}{f:SM}(h:tV H v=some (n,f)):
  ∃b e d,x=.map (some b)/\w.heap[b]?=some (.map e d)/\ly e d n f:=by
 unfold tV at h;split at h
 .rename_i id;split at h
  .rename_i u y z o;cases h;cases l with
   |ptr _ _ _ hid A h g=>
    obtain⟨b,c,i,rfl⟩:=g _ _ o;obtain⟨C,D,e,d,j,E,q,r⟩:=m.h.aY id _ o;rw[i]at j;simp only[aw,bQ]at j;obtain⟨rfl,rfl⟩:=j;exact⟨b,e,d,rfl,q,r⟩
  .cases h
 .cases h;cases l with|p _ _ t=>
   cases t with|map _ _ b e d i F g=>exact⟨b,e,d,rfl,i,g⟩
 .cases h
def Oj{U:Nat->Prop}(c:SC):bP w U c.pv c.v:=by
 cases c<;>simp only[SC.pv,SC.v]
 .exact .int _ _
 .exact .bool _
 .exact .str _
def Vm(c:SC):c.v.oneCell'=true:=by cases c<;>rfl
def Oq{U:Nat->Prop}(y:MV):bP w U y.pv y.v:=by
 cases y with
 |one c=>exact Oj c
 |agg e=>
  refine .agg _ _ aB (λj p b=>?_) (λj p b=>?_);all_goals
   rw[List.getElem?_map]at b;cases d:e[j]? with
   |none=>rw[d]at b;cases b
   |some c=>
    rw[d]at b;simp only[Option.map_some,aw]at b;subst b;have:(e.map SC.v).toArray.getD j undef=c.v:=by simp[d]
    rw[this]
    first|exact Vm c|exact Oj c
def vV{U:Nat->Prop}{H:Heap}{c:Nat}{p:PV}{x:Value}(b:bP w U p x):bj w U β H c (rR p) x:=by
 cases p with
 |agg d=>exact o6 b
 |_=>exact .p _ _ b
def SL{U:Nat->Prop}{t:TypeId}{b:PV}(h:BL P t b=true):∃g z,P.info? t=some g/\g.zero=some z/\bP w U b z:=by
 unfold BL at h;split at h
 .rename_i m;split at h
  .rename_i i c;split at h
   .rename_i z d;obtain⟨k,e⟩:=fM (w:=w) (U:=U) _ _ h;obtain⟨l⟩:=z;simp only at k e;refine⟨i,_,c,d,.agg m ⟨l⟩ k (λj y f=>?_) (λj y f=>?_)⟩
    .rw[nV];exact(e j y f).2
    .rw[nV];exact(e j y f).1
   .cases h
  .cases h
 .split at h
  .rename_i i c;split at h
   .rename_i z d;exact⟨i,z,c,d,(nU h).1⟩
   .cases h
  .cases h
def Kx(g:bH B w0 U0 nt β s a w){x i:Operand}{G H:DO}(M:bL x G=true)(N:bL i H=true){t:TypeId}{o:Bool}{c:PV}
  (A:(match uq P t with|some e=>BL P e c|none=>false)=true){v:DV}{I:Heap}{p:Nat}(m:bg cf (.fO o c G H) s=some (v,I,p)):
  ∃z,(Instr.lookup t (a.eval x) (a.eval i) o).run P w=.ok z w/\Good B w0 U0 s.heap s.next β w v I p z w:=by
 split at A
 case h_2=>cases A
 rename_i e O;obtain⟨Z,J,r⟩:=xK O;obtain⟨ie,z,Q,R,C⟩:=SL (w:=w) (U:=Own U0 β s.heap) A;simp only[bg]at m;split at m
 case h_2=>cases m
 rename_i xv k S T;split at m
 case h_2=>cases m
 rename_i n f V;simp only[aw,bQ]at m;obtain⟨rfl,rfl,rfl⟩:=m;rw[(g.ev N T).kR];obtain⟨b,es,D,W,K,E⟩:=Km g.mem (g.ev M S) V;rw[W];have h:=wx E k;have F:∃q,(Instr.lookup t (.map (some b)) (.string k) o).run P w=.ok (if o then .tuple #[q,.bool (f k).isSome]else q) w/\bP w (Own U0 β s.heap) (Gc f k c) q:=by
  cases u:f k with
  |none=>
   rw[u]at h;refine⟨z,?_,by simp only[Gc,u];exact C⟩;simp[Instr.lookup,run_underlying J,MapKept.run_getObj_map K,MapKept.run_checkKey r (oS k),MapKept.run_findKey r h.1,zeroValue,typeInfo,Q,R,Result.andThen]
  |some y=>
   rw[u]at h;obtain⟨j,e',X,a2,a3,a4⟩:=h;refine⟨y.v,?_,by simp only[Gc,u];exact Oq y⟩;simp[Instr.lookup,run_underlying J,MapKept.run_getObj_map K,MapKept.run_checkKey r (oS k),MapKept.run_findKey r X,a4,Result.andThen]
 obtain⟨q,Y,L⟩:=F;refine⟨_,Y,bl g.mem ?_⟩
 .cases o with
  |false=>exact vV L
  |true=>
   refine .tuple _ _ rfl λj d l=>?_
   match j,l with
   |0,l=>simp at l;subst l;exact vV L
   |1,l=>simp at l;subst l;exact .p _ _ (.bool _)
   |j+2,l=>simp at l
def Oa{U:Nat->Prop}{p:PV}{c:SC}{x:Value}(h:IP p=some c)(b:bP w U p x):x=c.v:=by
 cases p<;>simp only[IP,aw,reduceCtorEq]at h
 all_goals subst h;cases b;rfl
def Vl{U:Nat->Prop}{H:Heap}{o:Nat}{d:DV}{y:MV}{x:Value}(h:FJ d=some y)(r:bj w U β H o d x):x=y.v:=by
 cases r with
 |p v x g=>
  simp only[FJ]at h;split at h
  .rename_i c t;cases h;exact Oa t g
  .cases h
 |agg e f D E u=>
  simp only[FJ]at h;split at h
  .rename_i l z;cases h;obtain⟨n,b⟩:=eS z;have:f=(l.map SC.v).toArray:=by
    apply D4;intro j;rcases cK j e.length with i|i
    .obtain⟨c,A,k⟩:=b j e[j] (List.getElem?_eq_getElem i);have m:=u j e[j] (List.getElem?_eq_getElem i);have C:f[j]?=some (f.getD j undef):=iC ae;rw[C];generalize e[j]=d at k m;generalize f.getD j undef=q at m;cases d with
     |p F=>
      cases m with
      |p _ _ g=>
      have:=Oa k g;simp only[List.getElem?_toArray,List.getElem?_map,A,Option.map_some];rw[<-this]
     |_=>cases k
    .rw[tN ae];simp only[List.getElem?_toArray];rw[List.getElem?_eq_none (by simp;omega)]
   rw[this];rfl
  .cases h
 |_=>simp[FJ]at h
def nY{H:Heap}{l:Nat}{id b c n r:Nat}{f t:SM}{J i:Array MapEntry}{j g:Nat}(m:Mem B w0 U0 β H l w)(p:ah H id=some (.map false (.strs n f)))(D:β id=some (b,c))
  (E:B<=b)(F:w.heap[b]?=some (.map J j))(y:ly i g r t){d:DV}{z:Value}(A:∀K q G,bj K (Own U0 q G) q G l d z):
  Good B w0 U0 H l β w d (aH H id (.map false (.strs r t))) l z {w with heap:=w.heap.setIfInBounds b (.map i g)}:=by
 have C:=aM F;have u:pR β H l w β (aH H id (.map false (.strs r t))) l {w with heap:=w.heap.setIfInBounds b (.map i g)} id (.map false (.strs r t)):=by
  refine⟨λk v=>?_,?_,rfl,λk v=>rfl,Nat.le_refl _,m.h.lt _ _ p,.inr ⟨_,p,rfl,rfl⟩,λI o h=>?_,λI L h=>.inr ⟨L,_,h,p⟩⟩
  .rw[bn,an (λe=>v e.symm)]
  .rw[bn,aq rfl,p];rfl
  .by_cases e:b=I
   .subst e;exact .inr ⟨c,_,D,p⟩
   .left;rw[dw,an (λx=>e x.1)];exact h
 have v:=u.keeps (U0:=U0);have M:=u.cn;exact⟨β,u.mem m (Ey E _ F ED) ⟨b,c,i,g,D,E,by rw[dw,aq ⟨rfl,C⟩],y⟩,v,M,A _ _ _⟩
def ly.Vg{l:Array MapEntry}{b n:Nat}{f:SM}(h:ly l b n f){k:ByteArray}(t:f k=none)(d:∀e∈l.toList,e.key≠.string k)(y:MV):
  ly (l.push {key:=.string k,val:=y.v,born:=b}) (b+1) (n+1) (fF f k (some y)):=by
 refine⟨by simp[h.size],λe c=>?_,?_,?_,λe c=>?_,λi m o=>?_⟩
 .rw[wu,List.mem_append]at c;rcases c with c|c
  .have:=h.By e c;omega
  .simp only[List.mem_singleton]at c;subst c;exact Nat.lt_succ_self _
 .rw[wu,List.pairwise_append];refine⟨h.born,aB,λx p y g=>?_⟩;simp only[List.mem_singleton]at g;subst g;have:=h.By x p;simp only;omega
 .rw[wu,List.pairwise_append];refine⟨h.keys,aB,λx p y g=>?_⟩;simp only[List.mem_singleton]at g;subst g;exact d x p
 .rw[wu,List.mem_append]at c;rcases c with c|c
  .obtain⟨i,m,j,q,r⟩:=h.to e c;refine⟨i,m,j,?_,r⟩;unfold fF;rw[an ?_]
   .exact q
   .rintro rfl;exact d e c j
  .simp only[List.mem_singleton]at c;subst c;exact⟨k,y,rfl,by simp[fF],rfl⟩
 .unfold fF at o;split at o
  .rename_i e;subst e;exact⟨{key:=.string i,val:=y.v,born:=b},by rw[wu];simp,rfl⟩
  .obtain⟨e,c,j⟩:=h.from_ i m o;exact⟨e,by rw[wu];simp[c],j⟩
def ly.Wu{c:Array MapEntry}{d n:Nat}{f:SM}(h:ly c d n f){k:ByteArray}{j:Nat}{x:MapEntry}(r:c[j]?=some x)(l:x.key=.string k)(y:MV):
  ly (c.modify j λe=>{e with key:=.string k,val:=y.v}) d n (fF f k (some y)):=by
 have b:∀i,(c.modify j λe=>{e with key:=.string k,val:=y.v})[i]?=if j=i then some {x with key:=.string k,val:=y.v}else c[i]?:=by
  intro i;rw[G6];split
  .rename_i e;subst e;rw[r];rfl
  .rfl
 have m:(c.modify j λe=>{e with key:=.string k,val:=y.v}).toList.map (·.key)=c.toList.map (·.key):=by
  apply List.ext_getElem?;intro i;rw[List.getElem?_map,List.getElem?_map,dZ,dZ,b];split
  .rename_i e;subst e;rw[r];simp[l]
  .rfl
 have F:=G7 ⟨h.By,h.born⟩ r (k:=.string k) (v:=y.v);refine⟨by simp[h.size],F.1,F.2,?_,λe A=>?_,λC D E=>?_⟩
 .have z:(c.toList.map (·.key)).Pairwise (·≠·):=List.pairwise_map.2 h.keys;rw[<-m]at z;exact List.pairwise_map.1 z
 .obtain⟨i,g⟩:=List.getElem?_of_mem A;rw[dZ,b]at g;split at g
  .cases g;exact⟨k,y,rfl,by simp[fF],rfl⟩
  .rename_i o;obtain⟨C,D,p,z,J⟩:=h.to e (List.mem_of_getElem? (by rw[dZ];exact g));refine⟨C,D,p,?_,J⟩;unfold fF;rw[an ?_]
   .exact z
   .rintro rfl;apply o;have G:=List.pairwise_iff_getElem.1 h.keys;have t:j<c.toList.length:=by rw[jz];exact(wg.1 r).1
    have u:i<c.toList.length:=by rw[jz];exact(wg.1 g).1
    have H:c.toList[j]=x:=by
     have:=(wg.1 r).2;simpa using this
    have I:c.toList[i]=e:=by
     have:=(wg.1 g).2;simpa using this
    rcases LZ j i with q|rfl|q
    .exact absurd (by rw[H,I,l,p]) (G j i t u q)
    .rfl
    .exact absurd (by rw[H,I,l,p]) (G i j u t q)
 .unfold fF at E;split at E
  .rename_i e;subst e;exact⟨_,List.mem_of_getElem? (i:=j) (by rw[dZ,b,aq rfl]),rfl⟩
  .rename_i o;obtain⟨e,A,p⟩:=h.from_ C D E;obtain⟨i,g⟩:=List.getElem?_of_mem A;refine⟨e,List.mem_of_getElem? (i:=i) ?_,p⟩;rw[dZ,b,an ?_]
   .rw[<-dZ];exact g
   .rintro rfl;rw[dZ,r]at g;cases g;rw[l]at p;cases p;exact o rfl
def ly.erased{c:Array MapEntry}{d n:Nat}{f:SM}(h:ly c d n f){k:ByteArray}{j:Nat}{x:MapEntry}(y:c[j]?=some x)(q:x.key=.string k):
  ly (c.eraseIdxIfInBounds j) d (n-1) (fF f k none):=by
 have g:j<c.size:=(wg.1 y).1;have u:(c.eraseIdxIfInBounds j).toList=c.toList.eraseIdx j:=by
  simp[Array.eraseIdxIfInBounds,g]
 have b:(c.toList.eraseIdx j).Sublist c.toList:=List.eraseIdx_sublist _ _;have E:=List.pairwise_iff_getElem.1 h.keys;have F:c.toList[j]'(by simpa using g)=x:=by
  have:=(wg.1 y).2;simpa using this
 have o:∀e∈c.toList.eraseIdx j,e∈c.toList/\e.key≠.string k:=by
  intro e m;refine⟨b.subset m,λr=>?_⟩;obtain⟨i,l⟩:=List.getElem?_of_mem m;rw[List.getElem?_eraseIdx]at l;split at l
  .rename_i p;have t:=(List.getElem?_eq_some_iff.1 l).1;have z:=(List.getElem?_eq_some_iff.1 l).2;exact E i j t (by simpa using g) p (by rw[z,F,r,q])
  .rename_i p;have t:=(List.getElem?_eq_some_iff.1 l).1;have z:=(List.getElem?_eq_some_iff.1 l).2;exact E j (i+1) (by simpa using g) t ae (by rw[z,F,r,q])
 refine⟨?_,λe m=>?_,?_,?_,λe m=>?_,λA C r=>?_⟩
 .rw[<-jz,u,List.length_eraseIdx,aq (by simpa using g),jz,h.size]
 .rw[u]at m;exact h.By e (b.subset m)
 .rw[u];exact h.born.sublist b
 .rw[u];exact h.keys.sublist b
 .rw[u]at m;obtain⟨v,H⟩:=o e m;obtain⟨A,C,G,I,J⟩:=h.to e v;refine⟨A,C,G,?_,J⟩;unfold fF;rw[an ?_]
  .exact I
  .rintro rfl;exact H G
 .unfold fF at r;split at r
  .cases r
  .rename_i D;obtain⟨e,m,v⟩:=h.from_ A C r;refine⟨e,?_,v⟩;rw[u];obtain⟨i,l⟩:=List.getElem?_of_mem m;have K:i≠j:=by
    rintro rfl;rw[dZ,y]at l;cases l;rw[q]at v;cases v;exact D rfl
   rcases cK i j with p|L
   .exact List.mem_of_getElem? (i:=i) (by rw[List.getElem?_eraseIdx,aq p];exact l)
   .exact List.mem_of_getElem? (i:=i-1) (by rw[List.getElem?_eraseIdx,an ae,show i-1+1=i from ae];exact l)
def FP{H:Heap}{i:Nat}(m:Mem B w0 U0 β H i w){id:Nat}{x:Value}(l:bj w (Own U0 β H) β H i (.ptr id 0) x){o:Bool}{n:Nat}{f:SM}(j:ah H id=some (.map o (.strs n f))):
  ∃b c e d,β id=some (b,c)/\x=.map (some b)/\B<=b/\w.heap[b]?=some (.map e d)/\ly e d n f:=by
 cases l with
 |ptr _ _ _ hid u h p=>
  obtain⟨b,c,k,rfl⟩:=p _ _ j;obtain⟨v,y,e,d,g,q,r,t⟩:=m.h.aY id _ j;rw[k]at g;simp only[aw,bQ]at g;obtain⟨rfl,rfl⟩:=g;exact⟨b,c,e,d,k,rfl,q,r,t⟩
def IW(g:bH B w0 U0 nt β s a w){x i u:Operand}{D E F:DO}(N:bL x D=true)(O:bL i E=true)(Q:bL u F=true){t:TypeId}
  (R:(uq P t).isSome=true){v:DV}{G:Heap}{p:Nat}(l:bg cf (.ew D E F) s=some (v,G,p)):
  ∃H,(Instr.mapUpdate t (a.eval x) (a.eval i) (a.eval u)).run P w=.ok () H/\Good B w0 U0 s.heap s.next β w v G p undef H:=by
 obtain⟨Y,S⟩:=py.1 R;obtain⟨Z,I,q⟩:=xK S;simp only[bg]at l;split at l
 case h_2=>cases l
 rename_i id k d T U V;split at l
 case h_2=>cases l
 rename_i n f y r W;simp only[aw,bQ]at l;obtain⟨rfl,rfl,rfl⟩:=l;rw[(g.ev O U).kR,Vl W (g.ev Q V)];obtain⟨b,c,es,z,J,A,K,o,m⟩:=FP g.mem (g.ev N T) r;rw[A];have h:=wx m k;cases C:f k with
 |none=>
  rw[C]at h;simp only[Option.isSome_none,Bool.false_eq_true,cy];refine⟨_,?_,nY g.mem r J K o (m.Vg C h.2 y) (λ_ _ _=>.undef)⟩;simp[Instr.mapUpdate,run_underlying I,MapKept.run_getObj_map o,MapKept.run_checkKey q (oS k),MapKept.run_findKey q h.1,MapKept.run_setObj_map _ o,Result.andThen]
 |some y0=>
  rw[C]at h;obtain⟨j,e,X,L,M,a4⟩:=h;simp only[Option.isSome_some,bZ];refine⟨_,?_,nY g.mem r J K o (m.Wu L M y) (λ_ _ _=>.undef)⟩;simp[Instr.mapUpdate,run_underlying I,MapKept.run_getObj_map o,MapKept.run_checkKey q (oS k),MapKept.run_findKey q X,L,M,MapKept.run_keyThatStays (oS k),MapKept.run_setObj_map _ o,Result.andThen]
def IN(g:bH B w0 U0 nt β s a w){x i:Operand}{G H:DO}(M:bL x G=true)(N:bL i H=true){t t2 ty:TypeId}
  (O:pW P t=true){v:DV}{p:Heap}{r:Nat}(h:bg cf (.oj G H) s=some (v,p,r)):
  ∃z y,(Builtin.delete_ #[t,t2] ty #[a.eval x,a.eval i]).run P w=.ok z y/\Good B w0 U0 s.heap s.next β w v p r z y:=by
 obtain⟨V,W,I,A⟩:=sg O;simp only[bg]at h;split at h
 case h_2=>cases h
 rename_i id k Q R;split at h
 case h_2=>cases h
 rename_i n f C;simp only[aw,bQ]at h;obtain⟨rfl,rfl,rfl⟩:=h;rw[(g.ev N R).kR];obtain⟨b,c,X,D,J,E,K,o,l⟩:=FP g.mem (g.ev M Q) C;rw[E];have d:=wx l k;have L:∀(y:World) (u:Place) (p:Heap),bj y (Own U0 u p) u p s.next (.tuple []) (.tuple #[]):=λ_ _ _=>.tuple [] _ rfl aB
 cases F:f k with
 |none=>
  rw[F]at d;simp only[Option.isSome_none,Bool.false_eq_true,cy];have m:fF f k none=f:=by
   funext q;unfold fF;split
   .rename_i e;subst e;exact F.symm
   .rfl
  rw[m];refine⟨.tuple #[],_,?_,nY g.mem C J K o l L⟩;simp[Builtin.delete_,run_underlying I,MapKept.run_getObj_map o,MapKept.run_checkKey A (oS k),MapKept.run_findKey A d.1,MapKept.run_setObj_map _ o,Result.andThen]
 |some Y=>
  rw[F]at d;obtain⟨j,e,S,T,U,a4⟩:=d;simp only[Option.isSome_some,bZ];refine⟨.tuple #[],_,?_,nY g.mem C J K o (l.erased T U) L⟩;simp[Builtin.delete_,run_underlying I,MapKept.run_getObj_map o,MapKept.run_checkKey A (oS k),MapKept.run_findKey A S,MapKept.run_setObj_map _ o,Result.andThen]
def UW(g:bH B w0 U0 nt β s a w){x:Operand}{i:DO}(k:bL x i=true){t ty:TypeId}(l:pW P t=true){v:DV}{j:Heap}{d:Nat}(c:bg cf (.tX i) s=some (v,j,d)):
  ∃z,(Builtin.len_ #[t] ty #[a.eval x]).run P w=.ok z w/\Good B w0 U0 s.heap s.next β w v j d z w:=by
 obtain⟨u,y,m,A⟩:=sg l;simp only[bg]at c;split at c
 case h_2=>cases c
 rename_i C o;split at c
 case h_2=>cases c
 rename_i n f p;simp only[aw,bQ]at c;obtain⟨rfl,rfl,rfl⟩:=c;obtain⟨b,D,e,q,r,h⟩:=Km g.mem (g.ev k o) p;rw[q];refine⟨.int .i64 n,?_,bl g.mem (.p _ _ (.int _ _))⟩;simp[Builtin.len_,run_underlying m,MapKept.run_getObj_map r,Result.andThen,h.size,goInt]
def Ku(g:bH B w0 U0 nt β s a w){f:FuncId}{c:Array Operand}{b:List DO}(j:kJ c.toList b=true){v:DV}{i:Heap}{d:Nat}(e:bg cf (.oR f b) s=some (v,i,d)):
  Good B w0 U0 s.heap s.next β w v i d (.func (.func f) (c.map a.eval) #[]) w:=by
 simp only[bg]at e;cases h:gn s b with
 |none=>rw[h]at e;cases e
 |some l=>
  rw[h]at e;cases e;obtain⟨k,m⟩:=pj g j h;exact bl g.mem (.kh f l _ k m)
def K1(g:bH B w0 U0 nt β s a w){x:Operand}{e:DO}(i:bL x e=true){t:TypeId}{v:DV}{f:Heap}{c:Nat}(b:bg cf (.kS t e) s=some (v,f,c)):
  Good B w0 U0 s.heap s.next β w v f c (.iface t (a.eval x)) w:=by
 simp only[bg]at b;split at b
 case h_2=>cases b
 rename_i h j;split at b
 case h_2=>cases b
 rename_i p k;split at b
 case isFalse=>cases b
 rename_i l;cases b;have d:eR s.heap dep h=[]:=by simpa using l
 have:=ql g.mem [] dep h p _ k (by rw[d];simp) (g.ev i j);exact bl g.mem (.p _ _ (.iface t p _ this))
end
end
section
open Go.RowKit
section
variable{P:Program}{B:Nat}{w0:World}{U0:Nat->Prop}{β:Place}{w:World}{nt:Cx}{s:St}{a:Act}{cf:aI}
def iv{b:Builtin}{c:Call}(f:isBuiltin c b=true){i:Option Tmp}{d:TypeId}{pos:String}{e:Array Edge}{guard:Option (Nat×Bool)}:
  (execOp a.eval ⟨i,.call c,d,pos,e,guard⟩).run P w=(builtin b c.argTypes d (c.args.map λ| .const _=>true|_=>false) (c.args.map a.eval)).run P w:=by
 unfold isBuiltin at f;obtain⟨h,args,g⟩:=c;simp only at f⊢;split at f
 .simp only[cp]at f;subst f;simp only[execOp,resolve,Sem.run_bind,Sem.run_pure,Result.andThen_ok,invoke];rfl
 .cases f
def qn{g:Operand}{args:Array Operand}{d:Array TypeId}{e:Option Tmp}{c:TypeId}{pos:String}{b:Array Edge}{guard:Option (Nat×Bool)}{f:FuncId}{caps:Array Value}(h:a.eval g=.func (.func f) #[] caps):
  (execOp a.eval ⟨e,.call ⟨.value g,args,d⟩,c,pos,b,guard⟩).run P w=(callFunc f (args.map a.eval++caps)).run P w:=by
 simp only[execOp,resolve,Deferred.ofValue,h,Sem.run_bind,Sem.run_pure,Result.andThen_ok,invoke,Array.empty_append]
def zZ{g:Operand}{args:Array Operand}{d:Array TypeId}{e:Option Tmp}{c:TypeId}{pos:String}{b:Array Edge}{guard:Option (Nat×Bool)}{f:FuncId}{first:Array Value}(h:a.eval g=.func (.func f) first #[]):
  (execOp a.eval ⟨e,.call ⟨.value g,args,d⟩,c,pos,b,guard⟩).run P w=(callFunc f (first++args.map a.eval)).run P w:=by
 simp only[execOp,resolve,Deferred.ofValue,h,Sem.run_bind,Sem.run_pure,Result.andThen_ok,invoke,HW]
def yO{l r:Array Value}{j:Nat}:(l++r).getD j undef=if j<l.size then l.getD j undef else r.getD (j-l.size) undef:=by
 by_cases h:j<l.size
 .rw[aq h,dA,dA,Aa,aq h]
 .rw[an h,dA,dA,Aa,an h]
def JU(hc:bS P cf)(g:bH B w0 U0 nt β s a w){c:Call}{d:dN}(e:sf P c d=true){Z:Option Tmp}{k:TypeId}{pos:String}{R:Array Edge}{guard:Option (Nat×Bool)}{v:DV}{H':Heap}{x0:Nat}(m:bg cf d s=some (v,H',x0))
  {K:Act->World->Prop}{Q:Exit->Act->World->Prop}(L:∀x O,Good B w0 U0 s.heap s.next β w v H' x0 x O->K (a.put Z x) O):(⟨Z,.call c,k,pos,R,guard⟩:Oper).wp P a w K Q:=by
 unfold sf at e;split at e
 ·
  rename_i bytes sz s' W;simp only[aO]at e;obtain⟨A,e⟩:=e;split at e
  .rename_i x y t U b n;simp only[aO]at e;obtain⟨z,O,C,E⟩:=IL (ty:=k) g e.1.1 e.1.2 e.2 m;refine ez (x:=z) (w':=O) ?_ (L _ _ E);have F:c.args=#[x,y]:=by rw[<-kb (xs:=c.args),b]
   have G:c.argTypes=#[t,U]:=by rw[<-kb (xs:=c.argTypes),n]
   rw[iv A,F,G];simp only[builtin,Sem.run_bind,List.map_toArray,List.map_cons,List.map_nil,C,Result.andThen_ok,Sem.run_pure]
  .cases e
 ·
  rename_i bytes sz s' W;simp only[aO]at e;obtain⟨A,e⟩:=e;split at e
  .rename_i x y t U b n;simp only[aO]at e;obtain⟨z,O,C,E⟩:=Hr (ty:=k) g e.1.1 e.1.2 e.2 m;refine ez (x:=z) (w':=O) ?_ (L _ _ E);have F:c.args=#[x,y]:=by rw[<-kb (xs:=c.args),b]
   have G:c.argTypes=#[t,U]:=by rw[<-kb (xs:=c.argTypes),n]
   rw[iv A,F,G];simp only[builtin,Sem.run_bind,List.map_toArray,List.map_cons,List.map_nil,C,Result.andThen_ok,Sem.run_pure]
  .cases e
 ·
  rename_i f' r;simp only[aO]at e;obtain⟨D,b⟩:=e;obtain⟨J,args,x1⟩:=c;simp only at D b;split at D
  .rename_i f;simp only[cw]at D;subst D;simp only[bg]at m;cases H:gn s r with
   |none=>rw[H]at m;cases m
   |some l=>
    rw[H]at m;simp only at m;cases A:cf.de f l s.heap s.next with
    |none=>rw[A]at m;cases m
    |some q=>
     obtain⟨v1,H1,n1⟩:=q;rw[A]at m;simp only at m;split at m
     case isFalse=>cases m
     cases m;obtain⟨X,h2⟩:=pj g b H;obtain⟨u,h⟩:=wP (de:=true) hc g.mem (by simp only[iU,bZ];exact A) X h2;refine uM (f:=f) (args:=args.map a.eval) ?_ h L;rw[qn (f:=f) (caps:=#[]) rfl,HW];exact j3 u _
  .cases D
 ·
  rename_i sz s' W;simp only[aO]at e;obtain⟨A,e⟩:=e;split at e
  .rename_i x y t U b n;simp only[aO]at e;obtain⟨z,O,C,E⟩:=Qp (t2:=U) (ty:=k) g e.1.1 e.1.2 e.2 m;refine ez (x:=z) (w':=O) ?_ (L _ _ E);have F:c.args=#[x,y]:=by rw[<-kb (xs:=c.args),b]
   have G:c.argTypes=#[t,U]:=by rw[<-kb (xs:=c.argTypes),n]
   rw[iv A,F,G];simp only[builtin,Sem.run_bind,List.map_toArray,List.map_cons,List.map_nil,C,Result.andThen_ok,Sem.run_pure]
  .cases e
 ·
  rename_i W;simp only[aO]at e;obtain⟨A,e⟩:=e;split at e
  .rename_i x t b n;simp only[aO]at e;obtain⟨z,C,E⟩:=Uh (ty:=k) g e.1 e.2 m;refine ez (x:=z) (w':=w) ?_ (L _ _ E);have F:c.args=#[x]:=by rw[<-kb (xs:=c.args),b]
   have G:c.argTypes=#[t]:=by rw[<-kb (xs:=c.argTypes),n]
   rw[iv A,F,G];simp only[builtin,Sem.run_bind,List.map_toArray,List.map_cons,List.map_nil,C,Result.andThen_ok,Sem.run_pure]
  .cases e
 .rename_i W;simp only[aO]at e;obtain⟨A,e⟩:=e;split at e
  .rename_i x t b n;simp only[aO]at e;obtain⟨z,C,E⟩:=Qy (ty:=k) g e.1 e.2 m;refine ez (x:=z) (w':=w) ?_ (L _ _ E);have F:c.args=#[x]:=by rw[<-kb (xs:=c.args),b]
   have G:c.argTypes=#[t]:=by rw[<-kb (xs:=c.argTypes),n]
   rw[iv A,F,G];simp only[builtin,Sem.run_bind,List.map_toArray,List.map_cons,List.map_nil,C,Result.andThen_ok,Sem.run_pure]
  .cases e
 ·
  rename_i xe W;simp only[aO]at e;obtain⟨A,e⟩:=e;split at e
  .rename_i x t b n;simp only[aO]at e;obtain⟨z,O,C,E⟩:=Mh (ty:=k) g e.1 e.2 m;refine ez (x:=z) (w':=O) ?_ (L _ _ E);have F:c.args=#[x]:=by rw[<-kb (xs:=c.args),b]
   have G:c.argTypes=#[t]:=by rw[<-kb (xs:=c.argTypes),n]
   rw[iv A,F,G];simp only[builtin,Sem.run_bind,List.map_toArray,List.map_cons,List.map_nil,C,Result.andThen_ok,Sem.run_pure]
  .cases e
 ·
  rename_i x3 W xi;simp only[aO]at e;obtain⟨A,e⟩:=e;obtain⟨z,C,E⟩:=Vk (P:=P) (at_:=c.argTypes) (ty:=k) g e m;refine ez (x:=z) (w':=w) ?_ (L _ _ E);rw[iv A];cases x3
  .simp only[Bool.false_eq_true,cy]at C⊢;simp only[builtin,Sem.run_bind,C,Result.andThen_ok,Sem.run_pure]
  .simp only[bZ]at C⊢;simp only[builtin,Sem.run_bind,C,Result.andThen_ok,Sem.run_pure]
 ·
  rename_i W;simp only[aO]at e;obtain⟨A,e⟩:=e;split at e
  .rename_i x t b n;simp only[aO]at e;obtain⟨z,C,E⟩:=UW (ty:=k) g e.1 e.2 m;refine ez (x:=z) (w':=w) ?_ (L _ _ E);have F:c.args=#[x]:=by rw[<-kb (xs:=c.args),b]
   have G:c.argTypes=#[t]:=by rw[<-kb (xs:=c.argTypes),n]
   rw[iv A,F,G];simp only[builtin,Sem.run_bind,List.map_toArray,List.map_cons,List.map_nil,C,Result.andThen_ok,Sem.run_pure]
  .cases e
 ·
  rename_i W i';simp only[aO]at e;obtain⟨A,e⟩:=e;split at e
  .rename_i x i t U b n;simp only[aO]at e;obtain⟨z,O,C,E⟩:=IN (ty:=k) (t2:=U) g e.1.1 e.1.2 e.2 m;refine ez (x:=z) (w':=O) ?_ (L _ _ E);have F:c.args=#[x,i]:=by rw[<-kb (xs:=c.args),b]
   have G:c.argTypes=#[t,U]:=by rw[<-kb (xs:=c.argTypes),n]
   rw[iv A,F,G];simp only[builtin,Sem.run_bind,List.map_toArray,List.map_cons,List.map_nil,C,Result.andThen_ok,Sem.run_pure]
  .cases e
 ·
  rename_i S f' r;simp only[aO]at e;obtain⟨D,b⟩:=e;obtain⟨J,args,x1⟩:=c;simp only at D b;split at D
  .rename_i f;simp only[cw]at D;subst D;simp only[bg]at m;cases H:gn s r with
   |none=>rw[H]at m;cases m
   |some l=>
    rw[H]at m;obtain⟨X,h2⟩:=pj g b H;obtain⟨u,h⟩:=wP hc g.mem m X h2;refine uM (f:=f) (args:=args.map a.eval) ?_ h L;rw[qn (f:=f) (caps:=#[]) rfl,HW];exact j3 u _
  .cases D
 ·
  rename_i S xj r;simp only[aO]at e;obtain⟨D,b⟩:=e;obtain⟨J,args,x1⟩:=c;simp only at D b;split at D
  .rename_i fv;have go:∀(f:FuncId) (o:List DV) (l:List DV),gn s r=some l->iU cf S f (l++o) s.heap s.next=some (v,H',x0)->(∃M:Array Value,a.eval fv=.func (.func f) #[] M/\M.size=o.length/\∀(j:Nat) (y:DV),o[j]?=some y->bj w (Own U0 β s.heap) β s.heap s.next y (M.getD j undef))->
     (⟨Z,.call ⟨.value fv,args,x1⟩,k,pos,R,guard⟩:Oper).wp P a w K Q:=by
    rintro f o l H xb ⟨M,he,N,I⟩;obtain⟨X,h2⟩:=pj g b H;obtain⟨u,h⟩:=wP hc g.mem xb (vs:=args.map a.eval++M) (by simp;simp at X;omega) (λj d V=>by
     rw[yO];by_cases x4:j<l.length
     .rw[List.getElem?_append_left x4]at V;rw[aq ae];exact h2 j d V
     .rw[List.getElem?_append_right ae]at V;rw[an ae,X];exact I _ d V)
    refine uM (f:=f) (args:=args.map a.eval++M) ?_ h L;rw[qn he];exact j3 u _
   simp only[bg]at m;split at m
   .rename_i f o l hv H;have Y:=g.ev D hv;generalize T:a.eval fv=xv at Y;cases Y with|func _ _ M N I=>
    exact go f o l H m ⟨M,T,N,I⟩
   .rename_i f o l hv H;have Y:=g.ev D hv;generalize T:a.eval fv=xv at Y;cases Y with|p _ _ hp=>
    cases hp with|func _ _ M N I=>
    refine go f (o.map aQ) l H m ⟨M,T,by simpa using N,λj y hy=>?_⟩;rw[List.getElem?_map]at hy;cases x5:o[j]? with
    |none=>rw[x5]at hy;cases hy
    |some q=>rw[x5]at hy;simp only[Option.map_some,aw]at hy;subst hy;exact o6 (I j q x5)
   ·
    rename_i f first l hv H
    have Y:=g.ev D hv;generalize T:a.eval fv=xv at Y;cases Y with|kh _ _ M N I=>
    obtain⟨X,h2⟩:=pj g b H;obtain⟨u,h⟩:=wP hc g.mem m (vs:=M++args.map a.eval) (by simp;simp at X;omega) (λj d V=>by
     rw[yO];by_cases x4:j<first.length
     .rw[List.getElem?_append_left x4]at V;rw[aq ae];exact I j d V
     .rw[List.getElem?_append_right ae]at V;rw[an ae,N];exact h2 _ d V)
    refine uM (f:=f) (args:=M++args.map a.eval) ?_ h L;rw[zZ T];exact j3 u _
   .cases m
  .cases D
 .cases e
set_option maxHeartbeats 1000000 in
theorem OW(hc:bS P cf)(g:bH B w0 U0 nt β s a w){o:Oper}{d:dN}(b:oh P o.op d=true){v:DV}{H':Heap}{V:Nat}(c:bg cf d s=some (v,H',V)){K:Act->World->Prop}{Q:Exit->Act->World->Prop}
  (j:∀x J,Good B w0 U0 s.heap s.next β w v H' V x J->K (a.put o.dst x) J):o.wp P a w K Q:=by
 obtain⟨W,op,L,pos,D,guard⟩:=o;simp only at b j;unfold oh at b;split at b
 .rename_i x d;simp only[bg]at c;cases r:s.ev d with
  |none=>rw[r]at c;cases c
  |some q=>rw[r]at c;cases c;exact ez rfl (j _ _ (bl g.mem (g.ev b r)))
 .rename_i x d;simp only[bg]at c;cases r:s.ev d with
  |none=>rw[r]at c;cases c
  |some q=>rw[r]at c;cases c;exact ez rfl (j _ _ (bl g.mem (g.ev b r)))
 .simp only[aO]at b;obtain⟨z,f,h⟩:=TR (P:=P) g b.1.1 b.1.2 b.2 (o:=⟨W,_,L,pos,D,guard⟩) rfl c;exact ez f (j _ _ h)
 ·
  rename_i t E;simp only[bg]at c;split at c
  case h_2=>cases c
  simp only[aw,bQ]at c;obtain⟨rfl,rfl,rfl⟩:=c;obtain⟨i,z,hi,hz,x0,xg⟩:=lq b;have X:=A0 (w:=w) (β:=β) (H:=s.heap) (nx:=s.next) x0 (U:=Own U0 β s.heap);refine lv (sm:=Instr.alloc t true (.tuple #[])) (y:=.pointer (some ⟨w.heap.size,0,none⟩)) (w':=w.alloc (.cells z.cells t)) rfl ?_ (j _ _ (sW g.mem _ _ _ X.1 X.2));simp[Instr.alloc,zeroValue,typeInfo,hi,hz,newVar,newRow]
 ·
  rename_i t x d;simp only[bg]at c;cases r:s.ev d with
  |none=>rw[r]at c;cases c
  |some q=>
   rw[r]at c;simp only at c;cases u:q.cells with
   |none=>rw[u]at c;cases c
   |some cs=>
    rw[u]at c;split at c
    case h_2=>cases c
    cases c;rename_i M _;cases M;obtain⟨k,m⟩:=qM u (g.ev b r);refine lv (sm:=Instr.box t (a.eval x)) (y:=.pointer (some ⟨w.heap.size,0,none⟩)) (w':=w.alloc (.cells (a.eval x).cells t)) rfl ?_ (j _ _ (sW g.mem _ _ _ k m));simp[Instr.box,newVar,newRow]
 ·
  simp only[aO]at b;obtain⟨z,f,h⟩:=Pt g b.1 b.2 c;exact lv rfl f (j _ _ h)
 ·
  rename_i t x1 n E xa ps;cases A:bY P t with
  |none=>rw[A]at b;cases b
  |some e=>
  rw[A]at b;simp only[aO,cp,cw]at b;obtain⟨⟨⟨⟨⟨N,F⟩,O⟩,rfl⟩,x2⟩,Y⟩:=b;simp only[bg]at c;cases hl:iG s ps with
  |none=>rw[hl]at c;cases c
  |some l=>
  rw[hl]at c;simp only at c;cases hx:di s.heap E.length 0 l with
  |none=>rw[hx]at c;cases c
  |some xs=>
  rw[hx]at c;cases c;obtain⟨k,m⟩:=JG g n.toList ps l x2 hl;obtain⟨y,J,f,h⟩:=C9 (P:=P) (eE A) N F O g.mem (parts:=n.map λp=>(p.1,a.eval p.2)) (by rw[Ad];exact m) ae hx;exact lv rfl f (j _ _ h)
 ·
  rename_i t x1 n E x';simp only[aO,cw]at b;obtain⟨⟨rfl,hp⟩,b⟩:=b;cases A:bY P t with
  |none=>rw[A]at b;cases b
  |some e=>
  rw[A]at b;simp only[aO,cp]at b;obtain⟨⟨N,F⟩,O⟩:=b;split at hp
  case h_2=>cases hp
  rename_i x Y;simp only[bg]at c;cases r:s.ev x' with
  |none=>rw[r]at c;cases c
  |some q=>
  rw[r]at c;simp only at c;cases u:q.cells with
  |none=>rw[u]at c;cases c
  |some cs=>
  rw[u]at c;split at c
  case h_2=>cases c
  rename_i M _;cases M;split at c
  case isFalse=>cases c
  rename_i x7;cases c;obtain⟨y,J,f,h⟩:=Bs (P:=P) (eE A) N F O g.mem (g.ev hp r) u x7 (parts:=n.map λp=>(p.1,a.eval p.2)) (by rw[Ad,Y];rfl)
  exact lv rfl f (j _ _ h)
 .simp only[aO]at b;obtain⟨y,f,h⟩:=Sr g b.1 b.2 c;exact lv rfl f (j _ _ h)
 .simp only[aO]at b;obtain⟨J,f,h⟩:=QD g b.1.1 b.1.2 b.2 c;exact Xl rfl f (j _ _ h)
 .obtain⟨z,f,h⟩:=GB (P:=P) g b (o:=⟨W,_,L,pos,D,guard⟩) rfl c;exact ez f (j _ _ h)
 .simp only[aO,cp]at b;obtain⟨⟨rfl,m⟩,C⟩:=b;obtain⟨z,f,h⟩:=Rj (P:=P) g m C _ c;exact lv rfl f (j _ _ h)
 ·
  rename_i op t x y ty x';simp only[aO,cp]at b;obtain⟨⟨⟨rfl,m⟩,C⟩,R⟩:=b;obtain⟨z,f,h⟩:=Pk (P:=P) g m C R c;exact lv rfl f (j _ _ h)
 .simp only[aO]at b;obtain⟨⟨⟨k,m⟩,C⟩,R⟩:=b;obtain⟨z,f,h⟩:=UH (P:=P) g k m C R c;exact lv rfl f (j _ _ h)
 .simp only[aO]at b;obtain⟨⟨⟨k,m⟩,C⟩,R⟩:=b;obtain⟨z,f,h⟩:=Mq (P:=P) g k m C R c;exact lv rfl f (j _ _ h)
 .simp only[aO,cp]at b;obtain⟨rfl,m⟩:=b;obtain⟨z,f,h⟩:=WU (P:=P) g m c;exact lv rfl f (j _ _ h)
 .simp only[aO]at b;obtain⟨z,f,h⟩:=PL (P:=P) g b.1.1 b.1.2 b.2 c;exact lv rfl f (j _ _ h)
 .simp only[aO]at b;obtain⟨⟨⟨⟨⟨k,m⟩,C⟩,R⟩,h5⟩,h6⟩:=b;obtain⟨z,J,f,h⟩:=LH (P:=P) g k m C R h5 h6 c;exact lv rfl f (j _ _ h)
 .simp only[aO]at b;obtain⟨z,f,h⟩:=BX (P:=P) g b.1 b.2 c;exact lv rfl f (j _ _ h)
 .simp only[aO]at b;obtain⟨z,f,h⟩:=DT (P:=P) g b.1.1 b.1.2 b.2 c;exact lv rfl f (j _ _ h)
 .simp only[aO]at b;obtain⟨z,f,h⟩:=HE (P:=P) g b.1.1 b.1.2 b.2 c;exact lv rfl f (j _ _ h)
 .simp only[aO]at b;obtain⟨z,f,h⟩:=MF (P:=P) g b.1.1 b.1.2 b.2 c;exact lv rfl f (j _ _ h)
 .simp only[aO,cw]at b;obtain⟨k,rfl⟩:=b;obtain⟨z,f,h⟩:=Hj (P:=P) g k c;exact lv rfl f (j _ _ h)
 .simp only[aO]at b;obtain⟨z,J,f,h⟩:=PE (P:=P) g b.1.1 b.1.2 b.2 c;exact lv rfl f (j _ _ h)
 ·
  rename_i t;simp only[bg]at c;split at c
  case h_2=>cases c
  simp only[aw,bQ]at c;obtain⟨rfl,rfl,rfl⟩:=c;refine lv (sm:=Instr.makeMap t none) (y:=.map (some w.heap.size)) (w':=w.alloc (.map #[] 0)) rfl ?_ (j _ _ (Ox g.mem));simp[Instr.makeMap,Result.andThen]
 .simp only[aO,cw]at b;obtain⟨⟨⟨rfl,k⟩,m⟩,C⟩:=b;obtain⟨z,f,h⟩:=Kx (P:=P) g k m C c;exact lv rfl f (j _ _ h)
 .simp only[aO]at b;obtain⟨J,f,h⟩:=IW (P:=P) g b.1.1.1 b.1.1.2 b.1.2 b.2 c;exact Xl rfl f (j _ _ h)
 .rename_i fn first G f' S
  simp only[aO]at b;obtain⟨⟨k,m⟩,C⟩:=b;split at k
  .simp only[cw]at k;subst k;have T:G=#[]:=by
    rw[<-kb (xs:=G),List.isEmpty_iff.1 m]
   subst T;exact ez (by simp[execOp,Instr.makeFunc]) (j _ _ (Ku g C c))
  .cases k
 ·
  rename_i t x t' x';simp only[aO,cw]at b;obtain⟨⟨rfl,k⟩,m⟩:=b;have hu:∃Z,P.underlying t=some (.struct Z):=by
   split at m
   .rename_i Z hf;exact⟨Z,hf⟩
   .cases m
  obtain⟨Z,hu⟩:=hu;refine lv (sm:=Instr.makeInterface t (a.eval x)) (y:=.iface t (a.eval x)) (w':=w) rfl ?_ (j _ _ (K1 g k c));simp[Instr.makeInterface,run_underlying hu,Result.andThen]
 .rename_i fn first G f' S
  simp only[aO]at b;obtain⟨⟨k,m⟩,C⟩:=b;split at k
  .simp only[cw]at k;subst k;have I:first=#[]:=by
    rw[<-kb (xs:=first),List.isEmpty_iff.1 m]
   subst I;exact ez (by simp[execOp,Instr.makeFunc]) (j _ _ (JB g C c))
  .cases k
 .exact JU hc g b c j
 .cases b
end
end
end Go.Dv
