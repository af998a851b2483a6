/- Lemmas for the law of this claim. -/
import Derived.Test.YtcphhjkcgikdgaaGreatDoorP13
set_option linter.all false
namespace Go.Dv
section
open Go.RowKit
def oq{c:Type}:∀(l:List Nat) (e:List (Nat×c)) (k:Nat),k∈l->ag (da e l) k=none
 |i::r,e,k,h=>by
  simp only[da];by_cases b:k∈r
  .exact oq r _ k b
  .have:k=i:=by simpa[b]using h
   subst this;cases d:ag (da (jJ e k) r) k with
   |none=>rfl
   |some v=>
    have:=gX r _ _ _ d;rw[eC,aq rfl]at this;cases this
def oW{f:St->R}{c:Nat}{hid:List Nat}:∀(a b:List DV) (s:St),eD f c hid (a++b) s=match eD f c hid a s with
  |some (.normal,g)=>eD f c hid b g
  |x=>x
 |[],b,s=>rfl
 |d::a,b,s=>by
  simp only[List.cons_append,eD];cases h:f {s with env:=fI s.env c d,marks:=[]}with
  |none=>rfl
  |some r=>
   obtain⟨e,i⟩:=r;cases e with
   |normal=>exact oW a b _
   |exit id|ret|panic v=>rfl
def Ha{c:Array MapEntry}{b:Nat}(h:Su c b):(c.toList.map (·.born)).Nodup:=by
 show List.Pairwise (·≠·) _
 rw[List.pairwise_map];exact h.2
structure LR(P:Program)(n:Bd)(str:Bool)(m:Nat)(hid:List Nat)(r1 r2 r3:List Oper)(c:Nat)(o1 o2 o3 o4:Oper)(k1 it n1 src:Nat)(mt:TypeId)(hs:List Nat):Prop where
 e1:r1=[o1,o2]
 e2:r2=[o3,o4]
 eh:hid=it::src::hs
 m1:o1.dst=some k1/\o1.op=.move (.tmp m)/\o1.guard=none
 m2:o2.dst=some it/\o2.op=.range mt (.tmp k1)/\o2.guard=none
 m3:o3.dst=some n1/\o3.op=.next (.tmp it) str/\o3.guard=none
 m4:o4.dst=some c/\o4.op=.extract (.tmp n1) 0/\o4.guard=none
 nodup:hid.Nodup
 free:∀t∈hid,n.free t=true
 aaW:m∉hid
 kind:if str=true then pg P mt=true/\src=n1/\hs=[k1,c]else uY P mt=true/\hs=[k1,n1,c]/\∃o5 r3',r3=o5::r3'/\o5.dst=some src/\o5.op=.entry (.tmp it)/\o5.guard=none
def Dm{P:Program}{n:Bd}{str:Bool}{m:Nat}{hid:List Nat}{j k l:List Oper}{c:Nat}(h:vp P n str m hid j k l c=true):∃t u v x k1 o p d mt q,LR P n str m hid j k l c t u v x k1 o p d mt q:=by
 unfold vp at h;split at h
 case h_2=>cases h
 rename_i k1 D _ _ _ o mt E _ _ _ p a3 r _ _ _ F G _ _ _ y d q;simp only[aL,cH,df,kD,List.all_eq_true]at h;obtain⟨⟨⟨⟨⟨⟨⟨⟨⟨⟨rfl,rfl⟩,rfl⟩,rfl⟩,rfl⟩,rfl⟩,rfl⟩,f⟩,g⟩,z⟩,b⟩:=h;refine⟨_,_,_,_,_,_,_,_,_,_,rfl,rfl,rfl,⟨rfl,rfl,rfl⟩,⟨rfl,rfl,rfl⟩,⟨rfl,rfl,rfl⟩,⟨rfl,rfl,rfl⟩,f,g,λi=>?_,?_⟩
 .have:=List.contains_iff_mem.2 i;rw[z]at this;cases this
 .cases str with
  |true=>
   simp only[cQ,aL,cH]at b⊢;exact⟨b.1.1,b.1.2,b.2⟩
  |false=>
   simp only[Bool.false_eq_true,cK,aL,cH]at b⊢;obtain⟨⟨A,C⟩,e⟩:=b;refine⟨A,C,?_⟩;split at e
   .simp only[aL,cH]at e;obtain⟨rfl,rfl⟩:=e;exact⟨_,_,rfl,rfl,rfl,rfl⟩
   .cases e
section
variable{P:Program}{B:Nat}{w0:World}{U0:Nat->Prop}{β:Place}{w:World}{nt:Cx}{s:St}{a:Act}{cf:aK}
def vh(B:Nat)(U0:Nat->Prop)(i:Bd)(f:St->R)(G:(Exit->Act->World->Prop)->Act->World->Prop):Prop:=
 ∀(w0:World) (nt:Cx),nt.bd=i->∀(β:Place) (s:St) (a:Act) (w:World) (e:Ex) (c:St),bJ B w0 U0 nt β s a w->f s=some (e,c)->
  ∀(Q:Exit->Act->World->Prop),(∀g d b h,bJ B w0 U0 nt b c g d->uT d (Own U0 b c.heap) e h->Q h g d)->G Q a w
def Cx.round(nt:Cx)(b:Nat)(v:Value)(w:World)(β:Place)(s:St):Cx:=⟨nt.n,w,β,s.heap,s.next,b::nt.pq,λk=>if k=b then v else nt.val k⟩
def bJ.UB(g:bJ B w0 U0 nt β s a w){b:Nat}{v:Value}(c:a.tmps[b]?=some v)(f:nt.bd.free b=true):bJ B w U0 (nt.round b v w β s) β {s with marks:=[]} a w:=
 ⟨⟨Below.refl _ _,g.mem.bsize,g.mem.u0,g.mem.h,g.mem.tab⟩,g.env,g.size,⟨g.defers.1,λk d=>by
  simp only[Cx.round]at d⊢;by_cases e:k=b
  .subst e;rw[aq rfl];exact c
  .rw[ak e];rcases List.mem_cons.1 d with h|h
   .exact absurd h e
   .exact g.defers.2 k h⟩,eJ.refl _ _,mn.refl _ _ _,az⟩
def bJ.Sv(g:bJ B w0 U0 nt β s a w){d:Nat}{v:Value}{c:Place}{h:St}{i:Act}{f:World}(b:bJ B w U0 (nt.round d v w β s) c h i f)(n:nt.bd.free d=true):
  bJ B w0 U0 nt c {h with marks:=s.marks} i f/\i.tmps[d]?=some v/\Below B w f/\eJ w (Own U0 β s.heap) f (Own U0 c h.heap):=by
 have l:=b.defers.2;refine⟨⟨⟨g.mem.below.trans b.mem.below,b.mem.bsize,b.mem.u0,b.mem.h,b.mem.tab⟩,b.env,b.size,⟨b.defers.1,λk m=>?_⟩,g.keeps.trans b.keeps,g.cw.trans b.cw,g.marks⟩,?_,b.mem.below,b.keeps⟩
 .have j:k≠d:=λe=>AA n (e▸m)
  have:=l k (List.mem_cons_of_mem _ m);simp only[Cx.round,ak j]at this;exact this
 .have:=l d (by simp[Cx.round]);simp only[Cx.round,cQ]at this;exact this
def n6{b:Array Oper}{Q:Exit->Act->World->Prop}{o:Oper}{c:List Oper}{k:Nat}(d:o.dst=some k)(e:o.guard=none){x:Value}{w':World}(f:(execOp a.eval o).run P w=.ok (.value x) w')(h:wpList P b Q c (a.put (some k) x) w'):wpList P b Q (o::c) a w:=by
 refine Va e f ?_;rw[d];exact h
def KH(s:ByteArray)(pos:Nat):1<=(Utf8.decode s pos).2:=by
 unfold Utf8.decode;simp only;repeat' split
 all_goals simp
def bJ.aat(g:bJ B w0 U0 nt β s a w){k:Nat}{v:Value}{d:DV}(c:a.tmps[k]?=some v)(f:bg w (Own U0 β s.heap) β s.heap s.next d v):bJ B w0 U0 nt β {s with env:=fI s.env k d} a w:=by
 refine⟨g.mem,λj y b=>?_,g.size,g.defers,g.keeps,g.cw,g.marks⟩;rw[kb]at b;split at b
 .rename_i e;subst e;cases b;exact⟨v,c,f⟩
 .exact g.env j y b
def pQ(a:Act)(k:Nat)(v:Value)(h:k<a.tmps.size):(a.put (some k) v).tmps[k]?=some v:=by simp[Act.put,h]
def mQ(a:Act){k j:Nat}(v:Value)(h:k≠j):(a.put (some k) v).tmps[j]?=a.tmps[j]?:=by
 simp only[Act.put];rw[lq h]
def nE{a:Act}{k:Nat}{v:Value}(h:a.tmps[k]?=some v):a.eval (.tmp k)=v:=by simp[Act.eval,dH,h]
def zG{p nx:Nat}{G:(Exit->Act->World->Prop)->Act->World->Prop}{f:St->R}(i:vh B U0 {nt.bd with pq:=p::nt.bd.pq} f G){j:Value}{l:Nat}{d:DV}{v:Value}(g:bJ B w0 U0 nt β s a w)(e:nt.bd.free p=true)(t:a.tmps[p]?=some j)(r:a.tmps[l]?=some v)
  (u:bg w (Own U0 β s.heap) β s.heap s.next d v){hid:List Nat}{m:Ex}{n:St}(E:f {s with env:=fI s.env l d,marks:=[]}=some (m,n)){K:Act->World->Prop}{Q:Exit->Act->World->Prop}
  (F:∀h c b,m=.normal->bJ B w0 U0 nt b {n with env:=da n.env hid,marks:=s.marks} h c->h.tmps[p]?=some j->Below B w c->eJ w (Own U0 β s.heap) c (Own U0 b n.heap)->K h c)
  (x:m≠.normal->(∀id,m≠.exit id)/\∀h c b A,bJ B w0 U0 nt b {n with marks:=s.marks} h c->uT c (Own U0 b n.heap) m A->Q A h c):G (Exit.inBlock nx (Exit.then K Q)) a w:=by
 have D:=g.aat r u;refine(i w (nt.round p j w β {s with env:=fI s.env l d}) rfl β _ a w m n (D.UB t e) E _ λh c b A H o=>?_);obtain⟨C,I,J,L⟩:=D.Sv H e;cases m with
 |normal=>
  cases o;exact F h c b rfl (C.Hp (ig.refl _) λk y M=>gX hid _ _ _ M) I J L
 |exit id=>exact absurd rfl ((x az).1 id)
 |ret=>cases o;exact(x az).2 h c b _ C rfl
 |panic q=>obtain⟨z,rfl,N⟩:=o;exact(x az).2 h c b _ C ⟨z,rfl,N⟩
def bJ.YG(g:bJ B w0 U0 nt β s a w){r:Nat}{b:ByteArray}{p q:Nat}(l:w.heap[r]?=some (.stringIter b p))(N:B<=r)(A:w0.heap.size<=r):bJ B w0 U0 nt β s a {w with heap:=w.heap.setIfInBounds r (.stringIter b q)}:=by
 have m:∀U:Nat->Prop,eJ w U {w with heap:=w.heap.setIfInBounds r (.stringIter b q)} U:=by
  intro U;refine⟨λb o C _ h=>?_,λ_ _ _ h _=>h⟩;rw[dC,ak ?_]
  .exact h
  .rintro⟨rfl,_⟩;rw[l]at h;cases h;rcases C with⟨_,_,_,e⟩|⟨_,_,e⟩<;>cases e
 have D:Mem B w0 U0 β s.heap s.next {w with heap:=w.heap.setIfInBounds r (.stringIter b q)}:=by
  have u:Below B w0 {w with heap:=w.heap.setIfInBounds r (.stringIter b q)}:=by
   refine⟨g.mem.below.toBelow.trans ⟨rfl,rfl,rfl,az,λk m=>by rw[dC,ak ae]⟩,g.mem.below.drawn,λk o E e=>?_⟩;rw[dC,ak ?_]
   .exact g.mem.below.iter k o E e
   .rintro⟨rfl,_⟩;have:=aO e;omega
  refine⟨u,by simpa using g.mem.bsize,g.mem.u0,⟨g.mem.h.lt,λid aZ F=>?_,g.mem.h.inj⟩,λt G=>by
   obtain⟨x,T,H,n⟩:=g.mem.tab t G;exact⟨x,T,H,by rw[dC,ak ae];exact n⟩⟩
  have c:=g.mem.h.aZ id aZ F;refine c.carry (m _) (mn.refl _ _ _) rfl λy O o j I=>?_
  rw[dC,ak ?_]
  .exact I
  .rintro⟨rfl,_⟩;obtain⟨_,Q,n⟩:=c.there j;cases aZ with
   |var f R=>obtain⟨y,q,z,T,k1,k2,k3,_⟩:=c;rw[j]at k1;simp only[ay,bY]at k1;obtain⟨rfl,rfl⟩:=k1;rw[l]at k3;cases k3
   |row f J K|aV f J K=>
    rcases c with⟨_,k1⟩|⟨y,q,z,T,k1,k2,k3,_⟩
    .rw[j]at k1;cases k1
    .rw[j]at k1;simp only[ay,bY]at k1;obtain⟨rfl,rfl⟩:=k1;rw[l]at k3;cases k3
   |map f L=>cases L<;>(obtain⟨y,q,S,V,k1,k2,k3,_⟩:=c;rw[j]at k1;simp only[ay,bY]at k1;obtain⟨rfl,rfl⟩:=k1;rw[l]at k3;cases k3)
 exact⟨D,λi d M=>by
  obtain⟨v,x,n⟩:=g.env i d M;exact⟨v,x,n.cw (m _) (mn.refl _ _ _)⟩,g.size,g.defers,g.keeps.trans (m _),g.cw,g.marks⟩
def RJ{m:Nat}{hid:List Nat}{i1 k i2 Y:Nat}{r1 Z:Array Oper}{r3:List Oper}{c:Nat}{bd:Code}{f:St->R}{o1 o2 o3 o4:Oper}{k1 p n1 i:Nat}{mt:TypeId}{hs:List Nat}
  (hF:LR P nt.bd true m hid r1.toList Z.toList r3 c o1 o2 o3 o4 k1 p n1 i mt hs)
  (G:vh B U0 {nt.bd with pq:=p::nt.bd.pq} f (λQ a w=>bd.wp P Q a w))(g:bJ B w0 U0 nt β s a w){b:ByteArray}(hb:ag s.env m=some (.p (.str b)))(D:∀t∈hid,ag s.env t=none)
  {e:Ex}{s':St}(l:eD f i hid ((runesFrom b (b.size+1) 0).map mg) s=some (e,s')){Q:Exit->Act->World->Prop}(hQ:∀H E o ex,bJ B w0 U0 nt o s' H E->uT E (Own U0 o s'.heap) e ex->Q ex H E):
  (Code.seq (.region i1 r1 false) (.block k (.loop (.seq (.region i2 Z false) (.seq (.cond (.tmp c) .skip (.exit k)) (.block Y bd)))))).wp P Q a w:=by
 obtain⟨E1,E2,Eh,⟨d1,p1,q1⟩,⟨d2,p2,q2⟩,⟨d3,p3,q3⟩,⟨d4,p4,q4⟩,J,A,yr,hk⟩:=hF;simp only[cQ]at hk;obtain⟨xg,rfl,rfl⟩:=hk;subst Eh;simp only[List.nodup_cons,List.mem_cons,List.not_mem_nil,or_false,not_or,List.nodup_nil,and_true,not_false_eq_true]at J;obtain⟨⟨x1,x2,x3⟩,⟨x4,x5⟩,x6⟩:=J;have hu:=pa xg;have I:=A p az;have v:=A i az;have L:=A k1 az;have fc:=A c az;have xi:=l7 I;have F:=l7 v;have xj:=l7 L;have lc:=l7 fc;obtain⟨vm,M,N⟩:=g.env _ _ hb;obtain rfl:=N.kS;refine wp_seq (wp_region_list ?_);rw[E1];refine n6 d1 q1 (x:=.string b) (w':=w) (by simp[execOp,p1,nE M]) ?_;have g1:=g.lC (D k1 az) L (.string b);have c1:(a.put (some k1) (.string b)).eval (.tmp k1)=.string b:=pL _ _ _ (by rw[g.size];exact xj);generalize yw:a.put (some k1) (.string b)=aa at g1 c1;have C:(Instr.range mt (.string b)).run P w=.ok (.pointer (some ⟨w.heap.size,0,none⟩)) (w.alloc (.stringIter b 0)):=by
  simp[Instr.range,run_underlying hu,Result.andThen]
 refine n6 d2 q2 (x:=.pointer (some ⟨w.heap.size,0,none⟩)) (w':=w.alloc (.stringIter b 0)) (by simp only[execOp,p2,c1,Sem.run_bind,C,Result.andThen_ok,Sem.run_pure]) ?_;have O:=(g1.lC (D p az) I (.pointer (some ⟨w.heap.size,0,none⟩))).world (iF (Nat.le_refl _) (.stringIter b 0));have c2:(aa.put (some p) (.pointer (some ⟨w.heap.size,0,none⟩))).tmps[p]?=some (.pointer (some ⟨w.heap.size,0,none⟩)):=pQ _ _ _ (by rw[g1.size];exact xi);generalize aa.put (some p) (.pointer (some ⟨w.heap.size,0,none⟩))=ab at O c2;simp only[wpList]
 show Code.wp P _ Q _ _
 have xl:B<=w.heap.size:=g.mem.bsize;have S:w0.heap.size<=w.heap.size:=g.mem.below.size;have xm:(w.alloc (.stringIter b 0)).heap[w.heap.size]?=some (.stringIter b 0):=by rw[heap_alloc,aq rfl]
 generalize w.heap.size=r at*;have xn:∀(n pos:Nat) (s:St) (a:Act) (w:World) (β:Place),b.size-pos<n->bJ B w0 U0 nt β s a w->(∀t∈[p,i,k1,c],ag s.env t=none)->a.tmps[p]?=some (.pointer (some ⟨r,0,none⟩))->
   w.heap[r]?=some (.stringIter b pos)->eD f i [p,i,k1,c] ((runesFrom b n pos).map mg) s=some (e,s')->
   pR P (.seq (.region i2 Z false) (.seq (.cond (.tmp c) .skip (.exit k)) (.block Y bd))) (Exit.inBlock k Q) a w:=by
  intro n;induction n with
  |zero=>intro pos s a w β h;omega
  |succ n ih=>
  intro pos s a w β yz g D T hr l;refine FY (wp_seq (wp_region_list ?_));rw[E2];have U:=nE T;by_cases hp:pos<b.size
  .have y:(Instr.next (.pointer (some ⟨r,0,none⟩)) true o3.type).run P w=.ok (.tuple #[.bool true,.int .i64 pos,.int .i32 (Utf8.decode b pos).1]) {w with heap:=w.heap.setIfInBounds r (.stringIter b (pos+(Utf8.decode b pos).2))}:=by
    simp[Instr.next,getObj,setObj,Sem.run,hr,hp,Result.andThen,goInt]
   have O:=g.YG (q:=pos+(Utf8.decode b pos).2) hr xl S;have xo:({w with heap:=w.heap.setIfInBounds r (.stringIter b (pos+(Utf8.decode b pos).2))}:World).heap[r]?=some (.stringIter b (pos+(Utf8.decode b pos).2)):=by rw[dC,aq ⟨rfl,aO hr⟩]
   generalize({w with heap:=w.heap.setIfInBounds r (.stringIter b (pos+(Utf8.decode b pos).2))}:World)=w2 at*;refine n6 d3 q3 (x:=.tuple #[.bool true,.int .i64 pos,.int .i32 (Utf8.decode b pos).1]) (w':=w2) (by simp only[execOp,p3,U,Sem.run_bind,y,Result.andThen_ok,Sem.run_pure]) ?_;have V:=O.lC (D i az) v (.tuple #[.bool true,.int .i64 pos,.int .i32 (Utf8.decode b pos).1]);have c3:=pQ a i (.tuple #[.bool true,.int .i64 pos,.int .i32 (Utf8.decode b pos).1]) (by rw[O.size];exact F);have i3:(a.put (some i) (.tuple #[.bool true,.int .i64 pos,.int .i32 (Utf8.decode b pos).1])).tmps[p]?=some (.pointer (some ⟨r,0,none⟩)):=by rw[mQ _ _ (λe=>x1 e.symm)];exact T
   generalize a.put (some i) (.tuple #[.bool true,.int .i64 pos,.int .i32 (Utf8.decode b pos).1])=a3 at*;refine n6 d4 q4 (x:=.bool true) (w':=w2) (by simp[execOp,p4,nE c3,Instr.extract]) ?_;have g4:=V.lC (D c az) fc (.bool true);have c4:(a3.put (some c) (.bool true)).eval (.tmp c)=.bool true:=pL _ _ _ (by rw[V.size];exact lc);have c5:(a3.put (some c) (.bool true)).tmps[i]?=some (.tuple #[.bool true,.int .i64 pos,.int .i32 (Utf8.decode b pos).1]):=by rw[mQ _ _ (λe=>x5 e.symm)];exact c3
   have i5:(a3.put (some c) (.bool true)).tmps[p]?=some (.pointer (some ⟨r,0,none⟩)):=by rw[mQ _ _ (λe=>x3 e.symm)];exact i3
   generalize a3.put (some c) (.bool true)=a4 at*;simp only[wpList];refine wp_seq (wp_cond_true c4 (wp_skip ?_))
   show Code.wp P _ _ _ _
   simp only[runesFrom,aq hp,List.map_cons,eD]at l;have xs:bg w2 (Own U0 β s.heap) β s.heap s.next (mg (pos,((Utf8.decode b pos).1:Int))) (.tuple #[.bool true,.int .i64 pos,.int .i32 (Utf8.decode b pos).1]):=by
    refine .tuple _ _ rfl λj d u=>?_
    match j,u with
    |0,u=>simp at u;subst u;exact .p _ _ (.bool _)
    |1,u=>simp at u;subst u;exact .p _ _ (.int _ _)
    |2,u=>simp at u;subst u;exact .p _ _ (.int _ _)
    |j+3,u=>simp at u
   cases hf:f {s with env:=fI s.env i (mg (pos,((Utf8.decode b pos).1:Int))),marks:=[]}with
   |none=>rw[hf]at l;cases l
   |some q=>
    obtain⟨e1,s1⟩:=q;rw[hf]at l;refine wp_block (zG (nx:=Y) (K:=pR P (.seq (.region i2 Z false) (.seq (.cond (.tmp c) .skip (.exit k)) (.block Y bd))) (Exit.inBlock k Q)) (Q:=Exit.inBlock k Q) (hid:=[p,i,k1,c]) G g4 I i5 c5 xs hf (λH E o he g' W xv z4=>?_) (λxw=>⟨λid he=>?_,λH E o ex g' X=>?_⟩))
    .subst he;simp only at l;have z5:=KH b pos;refine ih (pos+(Utf8.decode b pos).2) _ H E o ae g' (λt ht=>oq _ _ _ ht) W ?_ l;exact xv.iter r _ (.inr ⟨_,_,rfl⟩) xo
    .subst he;cases l
    .cases e1 with
     |normal=>exact absurd rfl xw
     |exit id=>cases l
     |ret=>
      simp only[ay,bY]at l;obtain⟨rfl,rfl⟩:=l;cases X;exact hQ H E o _ g' rfl
     |panic q=>
      simp only[ay,bY]at l;obtain⟨rfl,rfl⟩:=l;obtain⟨z,rfl,hz⟩:=X;exact hQ H E o _ g' ⟨z,rfl,hz⟩
  .have y:(Instr.next (.pointer (some ⟨r,0,none⟩)) true o3.type).run P w=.ok (.tuple #[.bool false]) w:=by
    simp[Instr.next,getObj,Sem.run,hr,hp,Result.andThen]
   refine n6 d3 q3 (x:=.tuple #[.bool false]) (w':=w) (by simp only[execOp,p3,U,Sem.run_bind,y,Result.andThen_ok,Sem.run_pure]) ?_;have V:=g.lC (D i az) v (.tuple #[.bool false]);have c3:=pQ a i (.tuple #[.bool false]) (by rw[g.size];exact F);generalize a.put (some i) (.tuple #[.bool false])=a3 at*;refine n6 d4 q4 (x:=.bool false) (w':=w) (by simp[execOp,p4,nE c3,Instr.extract]) ?_;have g4:=V.lC (D c az) fc (.bool false);have c4:(a3.put (some c) (.bool false)).eval (.tmp c)=.bool false:=pL _ _ _ (by rw[V.size];exact lc);simp only[wpList];refine wp_seq (wp_cond_false c4 (wp_exit ?_))
   show Exit.inBlock k Q (.exit k) _ _
   simp only[Exit.inBlock,cQ];simp only[runesFrom,ak hp,List.map_nil,eD,ay,bY]at l;obtain⟨rfl,rfl⟩:=l;exact hQ _ _ β _ g4 rfl
 exact wp_block (yB (xn (b.size+1) 0 s ab _ β ae O D c2 xm l))
def Qb{b:Array MapEntry}{seen:Array Nat}{e:MapEntry}(h:e∈(leftOf b seen).toList):e∈b.toList:=(mem_left h).1
def Uw{m:Nat}{hid:List Nat}{i1 C i2 nx i3:Nat}{r1 r2 r3:Array Oper}{c:Nat}{bd:Code}{f g0:St->R}{o1 o2 o3 o4:Oper}{k1 J O v:Nat}{mt:TypeId}{hs:List Nat}
  (hF:LR P nt.bd false m hid r1.toList r2.toList r3.toList c o1 o2 o3 o4 k1 J O v mt hs)
  (xg:vh B U0 {nt.bd with pq:=J::nt.bd.pq} f (λQ a w=>wpList P r3 (Exit.then (bd.wp P Q) Q) r3.toList.tail a w))(g:bJ B w0 U0 nt β s a w){nn:Nat}{fm:SM}(hb:ag s.env m=some (.p (.map nn fm)))(Y:∀t∈hid,ag s.env t=none)
  {e:Ex}{s':St}(hd:∀l,iD fm l->(match eD f v hid (l.map λe=>sT e.1 e.2) s with|some (.normal,s')=>g0 s'|x=>x)=some (e,s')){Q:Exit->Act->World->Prop}(hQ:∀X U D ex,e≠.normal->bJ B w0 U0 nt D s' X U->uT U (Own U0 D s'.heap) e ex->Q ex X U)
  (yr:∀X U D s1,bJ B w0 U0 nt D s1 X U->g0 s1=some (e,s')->Q .normal X U):
  (Code.seq (.region i1 r1 false) (.block C (.loop (.seq (.region i2 r2 false) (.seq (.cond (.tmp c) .skip (.exit C)) (.block nx (.seq (.region i3 r3 false) bd))))))).wp P Q a w:=by
 obtain⟨E1,E2,Eh,⟨d1,p1,q1⟩,⟨d2,p2,q2⟩,⟨d3,p3,q3⟩,⟨d4,p4,q4⟩,xr,V,k6,hk⟩:=hF;simp only[Bool.false_eq_true,cK]at hk;obtain⟨yt,rfl,o5,k7,E3,d5,p5,q5⟩:=hk;subst Eh;simp only[List.nodup_cons,List.mem_cons,List.not_mem_nil,or_false,not_or,List.nodup_nil,and_true,not_false_eq_true]at xr;obtain⟨⟨x1,x2,x3,x4⟩,⟨x5,x6,x7⟩,⟨x8,x9⟩,ke⟩:=xr;obtain⟨kt,et,hu,kg⟩:=yD yt;have xh:=V J az;have xc:=V v az;have xt:=V k1 az;have xi:=V O az;have fc:=V c az;have yv:=l7 xh;have xu:=l7 xc;have yw:=l7 xt;have xv:=l7 xi;have lc:=l7 fc;obtain⟨vm,xw,xx⟩:=g.env _ _ hb;obtain⟨b,u,i,rfl,N,Z,F⟩:∃b u i,vm=.map (some b)/\w.heap[b]?=some (.map u i)/\¬Own U0 β s.heap b/\lO u i nn fm:=by
  cases xx with|p _ _ hp=>cases hp with|map _ _ b u i h1 h2 h3=>exact⟨b,u,i,rfl,h1,h2,h3⟩
 refine wp_seq (wp_region_list ?_);rw[E1];refine n6 d1 q1 (x:=.map (some b)) (w':=w) (by simp[execOp,p1,nE xw]) ?_;have g1:=g.lC (Y k1 az) xt (.map (some b));have c1:(a.put (some k1) (.map (some b))).eval (.tmp k1)=.map (some b):=pL _ _ _ (by rw[g.size];exact yw);generalize ki:a.put (some k1) (.map (some b))=aa at g1 c1;have x0:(Instr.range mt (.map (some b))).run P w=.ok (.pointer (some ⟨w.heap.size,0,none⟩)) (w.alloc (.mapIter (some b) i #[] i)):=by
  simp[Instr.range,run_underlying hu,MapKept.run_getObj_map N,Result.andThen]
 refine n6 d2 q2 (x:=.pointer (some ⟨w.heap.size,0,none⟩)) (w':=w.alloc (.mapIter (some b) i #[] i)) (by simp only[execOp,p2,c1,Sem.run_bind,x0,Result.andThen_ok,Sem.run_pure]) ?_;have g2:=(g1.lC (Y J az) xh (.pointer (some ⟨w.heap.size,0,none⟩))).world (iF (Nat.le_refl _) (.mapIter (some b) i #[] i));have c2:(aa.put (some J) (.pointer (some ⟨w.heap.size,0,none⟩))).tmps[J]?=some (.pointer (some ⟨w.heap.size,0,none⟩)):=pQ _ _ _ (by rw[g1.size];exact yv);generalize aa.put (some J) (.pointer (some ⟨w.heap.size,0,none⟩))=ab at g2 c2;simp only[wpList]
 show Code.wp P _ Q _ _
 have yy:B<=w.heap.size:=g.mem.bsize;have y2:w0.heap.size<=w.heap.size:=g.mem.below.size;have y3:b≠w.heap.size:=by have:=aO N;omega
 have yz:(w.alloc (.mapIter (some b) i #[] i)).heap[w.heap.size]?=some (.mapIter (some b) i #[] i):=by rw[heap_alloc,aq rfl]
 have z0:(w.alloc (.mapIter (some b) i #[] i)).heap[b]?=some (.map u i):=by rw[heap_alloc,ak y3];exact N
 generalize w.heap.size=r at*;have y4:=F.BV;obtain⟨o,E⟩:∃o:MapEntry->ByteArray×MV,∀x∈u.toList,x.key=.string (o x).1/\fm (o x).1=some (o x).2/\x.val=(o x).2.v:=by
  have:∀x:MapEntry,∃p:ByteArray×MV,x∈u.toList->x.key=.string p.1/\fm p.1=some p.2/\x.val=p.2.v:=λx=>by
   by_cases G:x∈u.toList
   .obtain⟨k,y,h1,h2,h3⟩:=F.to x G;exact⟨(k,y),λ_=>⟨h1,h2,h3⟩⟩
   .exact⟨(ByteArray.empty,.one (.bool false)),λh=>absurd h G⟩
  exact⟨λx=>(this x).choose,λx G=>(this x).choose_spec G⟩
 have xd:∀l:List MapEntry,l.Perm u.toList->iD fm (l.map o):=by
  intro l hl;refine⟨?_,λk y=>⟨λhm=>?_,λhf=>?_⟩⟩
  .rw[List.map_map];have hp:u.toList.Pairwise λx y=>(o x).1≠(o y).1:=by
    refine F.keys.imp_of_mem λ{x y} G hy xk e=>xk ?_
    rw[(E x G).1,(E y hy).1,e]
   have z2:(u.toList.map ((λx=>x.1)∘o)).Nodup:=by
    show List.Pairwise (·≠·) _
    rw[List.pairwise_map];exact hp
   exact((hl.map ((λx:ByteArray×MV=>x.1)∘o)).nodup_iff).2 z2
  .obtain⟨x,G,he⟩:=List.mem_map.1 hm;have:=E x (hl.mem_iff.1 G);rw[he]at this;exact this.2.1
  .obtain⟨x,G,h1⟩:=F.from_ k y hf;have h2:=E x G;rw[h1]at h2;obtain⟨h3,h4,h5⟩:=h2;have hk:k=(o x).1:=by simpa using h3
   refine List.mem_map.2 ⟨x,hl.mem_iff.2 G,?_⟩;rw[<-hk,hf]at h4;exact Prod.ext hk.symm (Hg h4).symm
 have z3:∀(n:Nat) (done:List MapEntry) (S:St) (a:Act) (w:World) (β:Place) (seen:Array Nat) (cc:Nat),(leftOf u seen).size=n->bJ B w0 U0 nt β S a w->(∀t∈[J,v,k1,O,c],ag S.env t=none)->a.tmps[J]?=some (.pointer (some ⟨r,0,none⟩))->
   w.heap[r]?=some (.mapIter (some b) i seen cc)->i<=cc->w.heap[b]?=some (.map u i)->¬Own U0 β S.heap b->(done++(leftOf u seen).toList).Perm u.toList->
   eD f v [J,v,k1,O,c] ((done.map o).map λe=>sT e.1 e.2) s=some (.normal,S)->
   pR P (.seq (.region i2 r2 false) (.seq (.cond (.tmp c) .skip (.exit C)) (.block nx (.seq (.region i3 r3 false) bd)))) (Exit.inBlock C Q) a w:=by
  intro n;induction n using Nat.strongRecOn with
  |ind n ih=>
  intro done S a w β seen cc xl g Y y7 hr z4 N Z H I;refine FY (wp_seq (wp_region_list ?_));rw[E2];have y8:=nE y7;rcases run_next_at (P:=P) w o3.type r b i cc seen u i hr N y4 z4 with⟨h0,L⟩|⟨x,G,T,xm,L⟩
  .refine n6 d3 q3 (x:=.tuple #[.bool false]) (w':=w) (by simp only[execOp,p3,y8,Sem.run_bind,L,Result.andThen_ok,Sem.run_pure]) ?_;have g3:=g.lC (Y O az) xi (.tuple #[.bool false]);have c3:=pQ a O (.tuple #[.bool false]) (by rw[g.size];exact xv);generalize a.put (some O) (.tuple #[.bool false])=a3 at*;refine n6 d4 q4 (x:=.bool false) (w':=w) (by simp[execOp,p4,nE c3,Instr.extract]) ?_;have g4:=g3.lC (Y c az) fc (.bool false);have c4:(a3.put (some c) (.bool false)).eval (.tmp c)=.bool false:=pL _ _ _ (by rw[g3.size];exact lc);simp only[wpList];refine wp_seq (wp_cond_false c4 (wp_exit ?_))
   show Exit.inBlock C Q (.exit C) _ _
   simp only[Exit.inBlock,cQ];have z7:(leftOf u seen).toList=[]:=List.eq_nil_of_length_eq_zero (by simpa using h0);rw[z7,List.append_nil]at H;have:=hd (done.map o) (xd done H);rw[I]at this;exact yr _ _ β S g4 this
  .have ya:T.heap[b]?=some (.map u i):=by rcases xm with rfl|rfl<;>exact N
   have xe:T.heap[r]?=some (.mapIter (some b) i seen cc):=by rcases xm with rfl|rfl<;>exact hr
   have g1:bJ B w0 U0 nt β S a T:=by
    rcases xm with rfl|rfl
    .exact g
    .exact g.world (eK _ _)
   have g2:=g1.iter xe yy y2 (.mapIter (some b) i (seen.push x.born) i) (by rintro(⟨_,_,_,e⟩|⟨_,_,e⟩)<;>cases e)
   have yb:=Qb G;obtain⟨z8,ko,z9⟩:=E x yb;have za:(ChangeMaps.setBlock T r (.mapIter (some b) i (seen.push x.born) i))={T with heap:=T.heap.setIfInBounds r (.mapIter (some b) i (seen.push x.born) i)}:=rfl;rw[za]at L;have xf:({T with heap:=T.heap.setIfInBounds r (.mapIter (some b) i (seen.push x.born) i)}:World).heap[r]?=some (.mapIter (some b) i (seen.push x.born) i):=by rw[dC,aq ⟨rfl,aO xe⟩]
   have W:({T with heap:=T.heap.setIfInBounds r (.mapIter (some b) i (seen.push x.born) i)}:World).heap[b]?=some (.map u i):=by rw[dC,ak (λz=>y3 z.1.symm)];exact ya
   generalize({T with heap:=T.heap.setIfInBounds r (.mapIter (some b) i (seen.push x.born) i)}:World)=w2 at*;refine n6 d3 q3 (x:=.tuple #[.bool true,x.key,x.val]) (w':=w2) (by simp only[execOp,p3,y8,Sem.run_bind,L,Result.andThen_ok,Sem.run_pure]) ?_;have g3:=g2.lC (Y O az) xi (.tuple #[.bool true,x.key,x.val]);have c3:=pQ a O (.tuple #[.bool true,x.key,x.val]) (by rw[g2.size];exact xv);have zb:(a.put (some O) (.tuple #[.bool true,x.key,x.val])).tmps[J]?=some (.pointer (some ⟨r,0,none⟩)):=by rw[mQ _ _ (λe=>x3 e.symm)];exact y7
   generalize a.put (some O) (.tuple #[.bool true,x.key,x.val])=a3 at*;refine n6 d4 q4 (x:=.bool true) (w':=w2) (by simp[execOp,p4,nE c3,Instr.extract]) ?_;have g4:=g3.lC (Y c az) fc (.bool true);have c4:(a3.put (some c) (.bool true)).eval (.tmp c)=.bool true:=pL _ _ _ (by rw[g3.size];exact lc);have yd:(a3.put (some c) (.bool true)).tmps[J]?=some (.pointer (some ⟨r,0,none⟩)):=by rw[mQ _ _ (λe=>x4 e.symm)];exact zb
   generalize a3.put (some c) (.bool true)=a4 at*;simp only[wpList];refine wp_seq (wp_cond_true c4 (wp_skip ?_))
   show Code.wp P _ _ _ _
   refine wp_block (wp_seq (wp_region_list ?_));have xa:=run_entry_at (P:=P) w2 r b i seen u i x xf W yb (Ha ⟨F.BV,F.born⟩);rw[E3];refine n6 d5 q5 (x:=.tuple #[x.key,x.val]) (w':=w2) (by simp only[execOp,p5,nE yd,Sem.run_bind,xa,Result.andThen_ok,Sem.run_pure]) ?_;have g5:=g4.lC (Y v az) xc (.tuple #[x.key,x.val]);have c5:=pQ a4 v (.tuple #[x.key,x.val]) (by rw[g4.size];exact xu);have zd:(a4.put (some v) (.tuple #[x.key,x.val])).tmps[J]?=some (.pointer (some ⟨r,0,none⟩)):=by rw[mQ _ _ (λe=>x1 e.symm)];exact yd
   generalize a4.put (some v) (.tuple #[x.key,x.val])=a5 at*;have ze:bg w2 (Own U0 β S.heap) β S.heap S.next (sT (o x).1 (o x).2) (.tuple #[x.key,x.val]):=by
    refine .tuple _ _ rfl λj d hj=>?_
    match j,hj with
    |0,hj=>simp at hj;subst hj;simp only[z8];exact .p _ _ (.str _)
    |1,hj=>simp at hj;subst hj;simp only[z9];exact wX (Ob _)
    |j+2,hj=>simp at hj
   have ye:=D4 (leftOf u seen).toList (List.Pairwise.sublist (by unfold leftOf;rw[HD];exact List.filter_sublist) F.born) x G;rw[<-HT]at ye;have M:((done++[x])++(leftOf u (seen.push x.born)).toList).Perm u.toList:=by
    refine List.Perm.trans ?_ H;rw[List.append_assoc];exact List.Perm.append_left done ye.symm
   have A:=hd _ (xd _ M);rw[List.map_append,List.map_append,List.map_append,List.map_append,List.append_assoc,oW,I]at A;simp only[List.map_cons,List.map_nil,List.singleton_append,eD]at A;cases hf:f {S with env:=fI S.env v (sT (o x).1 (o x).2),marks:=[]}with
   |none=>rw[hf]at A;cases A
   |some q=>
    obtain⟨e1,s1⟩:=q;rw[hf]at A;have yf:=zG (nx:=nx) (K:=pR P (.seq (.region i2 r2 false) (.seq (.cond (.tmp c) .skip (.exit C)) (.block nx (.seq (.region i3 r3 false) bd)))) (Exit.inBlock C Q)) (Q:=Exit.inBlock C Q) (hid:=[J,v,k1,O,c]) xg g5 xh zd c5 ze hf (λX U D he g' yg zf yh=>?_) (λxk=>⟨λid he=>?_,λX U D ex g' yi=>?_⟩)
    .rw[E3]at yf;exact yf
    .subst he;refine ih _ ?_ (done++[x]) _ X U D (seen.push x.born) i rfl g' (λt ht=>oq _ _ _ ht) yg ?_ (Nat.le_refl _) ?_ ?_ M ?_
     .rw[<-xl];exact left_shrinks u seen x G
     .exact zf.iter r _ (.inl ⟨_,_,_,_,rfl⟩) xf
     .exact yh.block b _ .map Z W
     .exact yh.out b _ .map Z W
     .rw[List.map_append,List.map_append,oW,I];simp only[List.map_cons,List.map_nil,eD,hf]
    .subst he;cases A
    .cases e1 with
     |normal=>exact absurd rfl xk
     |exit id=>cases A
     |ret=>
      simp only[ay,bY]at A;obtain⟨rfl,rfl⟩:=A;cases yi;exact hQ X U D _ az g' rfl
     |panic q=>
      simp only[ay,bY]at A;obtain⟨rfl,rfl⟩:=A;obtain⟨z,rfl,hz⟩:=yi;exact hQ X U D _ az g' ⟨z,rfl,hz⟩
 refine wp_block (yB (z3 _ [] s ab _ β #[] i rfl g2 Y c2 yz (Nat.le_refl _) z0 Z ?_ rfl));rw[List.nil_append];have:(leftOf u #[]).toList=u.toList:=by
  unfold leftOf;rw[HD,List.filter_eq_self];intro a _;simp
 rw[this]
end
end
end Go.Dv
