/- Lemmas for the law of this claim. -/
import Derived.Test.YtcphhjkcgikdgaaGreatDoorP13
set_option linter.all false
namespace Go.Dv
section
open Go.RowKit
def nz{c:Type}:∀(l:List Nat) (e:List (Nat×c)) (k:Nat),k∈l->ah (cT e l) k=none
 |i::r,e,k,h=>by
  simp only[cT];by_cases b:k∈r
  .exact nz r _ k b
  .have:k=i:=by simpa[b]using h
   subst this;cases d:ah (cT (oe e k) r) k with
   |none=>rfl
   |some v=>
    have:=gQ r _ _ _ d;rw[DY,aq rfl]at this;cases this
def oD{f:St->R}{c:Nat}{hid:List Nat}:∀(a b:List DV) (s:St),dW f c hid (a++b) s=match dW f c hid a s with
  |some (.normal,g)=>dW f c hid b g
  |x=>x
 |[],b,s=>rfl
 |d::a,b,s=>by
  simp only[List.cons_append,dW];cases h:f {s with env:=fi s.env c d,marks:=[]}with
  |none=>rfl
  |some r=>
   obtain⟨e,i⟩:=r;cases e with
   |normal=>exact oD a b _
   |exit id|ret|panic v=>rfl
def H2{c:Array MapEntry}{b:Nat}(h:QR c b):(c.toList.map (·.born)).Nodup:=by
 show List.Pairwise (·≠·) _
 rw[List.pairwise_map];exact h.2
structure Mw(P:Program)(n:Bd)(str:Bool)(m:Nat)(hid:List Nat)(r1 r2 r3:List Oper)(c:Nat)(o1 o2 o3 o4:Oper)(k1 it n1 src:Nat)(mt:TypeId)(hs:List Nat):Prop where
 e1:r1=[o1,o2]
 e2:r2=[o3,o4]
 eh:hid=it::src::hs
 m1:o1.dst=some k1/\o1.op=.move (.tmp m)/\o1.guard=none
 m2:o2.dst=some it/\o2.op=.range mt (.tmp k1)/\o2.guard=none
 m3:o3.dst=some n1/\o3.op=.next (.tmp it) str/\o3.guard=none
 m4:o4.dst=some c/\o4.op=.extract (.tmp n1) 0/\o4.guard=none
 nodup:hid.Nodup
 free:∀t∈hid,n.free t=true
 aaF:m∉hid
 kind:if str=true then oO P mt=true/\src=n1/\hs=[k1,c]else pW P mt=true/\hs=[k1,n1,c]/\∃o5 r3',r3=o5::r3'/\o5.dst=some src/\o5.op=.entry (.tmp it)/\o5.guard=none
def Dd{P:Program}{n:Bd}{str:Bool}{m:Nat}{hid:List Nat}{j k l:List Oper}{c:Nat}(h:uO P n str m hid j k l c=true):∃t u v x k1 o p d mt q,Mw P n str m hid j k l c t u v x k1 o p d mt q:=by
 unfold uO at h;split at h
 case h_2=>cases h
 rename_i k1 D _ _ _ o mt E _ _ _ p F r _ _ _ G a4 _ _ _ y d q;simp only[aO,cw,cp,jW,List.all_eq_true]at h;obtain⟨⟨⟨⟨⟨⟨⟨⟨⟨⟨rfl,rfl⟩,rfl⟩,rfl⟩,rfl⟩,rfl⟩,rfl⟩,f⟩,g⟩,z⟩,b⟩:=h;refine⟨_,_,_,_,_,_,_,_,_,_,rfl,rfl,rfl,⟨rfl,rfl,rfl⟩,⟨rfl,rfl,rfl⟩,⟨rfl,rfl,rfl⟩,⟨rfl,rfl,rfl⟩,f,g,λi=>?_,?_⟩
 .have:=List.contains_iff_mem.2 i;rw[z]at this;cases this
 .cases str with
  |true=>
   simp only[bZ,aO,cw]at b⊢;exact⟨b.1.1,b.1.2,b.2⟩
  |false=>
   simp only[Bool.false_eq_true,cy,aO,cw]at b⊢;obtain⟨⟨A,C⟩,e⟩:=b;refine⟨A,C,?_⟩;split at e
   .simp only[aO,cw]at e;obtain⟨rfl,rfl⟩:=e;exact⟨_,_,rfl,rfl,rfl,rfl⟩
   .cases e
section
variable{P:Program}{B:Nat}{w0:World}{U0:Nat->Prop}{β:Place}{w:World}{nt:Cx}{s:St}{a:Act}{cf:aI}
def uF(B:Nat)(U0:Nat->Prop)(i:Bd)(f:St->R)(G:(Exit->Act->World->Prop)->Act->World->Prop):Prop:=
 ∀(w0:World) (nt:Cx),nt.bd=i->∀(β:Place) (s:St) (a:Act) (w:World) (e:Ex) (c:St),bH B w0 U0 nt β s a w->f s=some (e,c)->
  ∀(Q:Exit->Act->World->Prop),(∀g d b h,bH B w0 U0 nt b c g d->tL d (Own U0 b c.heap) e h->Q h g d)->G Q a w
def Cx.round(nt:Cx)(b:Nat)(v:Value)(w:World)(β:Place)(s:St):Cx:=⟨nt.n,w,β,s.heap,s.next,b::nt.oQ,λk=>if k=b then v else nt.val k⟩
def bH.SO(g:bH B w0 U0 nt β s a w){b:Nat}{v:Value}(c:a.tmps[b]?=some v)(f:nt.bd.free b=true):bH B w U0 (nt.round b v w β s) β {s with marks:=[]} a w:=
 ⟨⟨Below.refl _ _,g.mem.bsize,g.mem.u0,g.mem.h,g.mem.tab⟩,g.env,g.size,⟨g.defers.1,λk d=>by
  simp only[Cx.round]at d⊢;by_cases e:k=b
  .subst e;rw[aq rfl];exact c
  .rw[an e];rcases List.mem_cons.1 d with h|h
   .exact absurd h e
   .exact g.defers.2 k h⟩,dT.refl _ _,ku.refl _ _ _,aB⟩
def bH.QQ(g:bH B w0 U0 nt β s a w){d:Nat}{v:Value}{c:Place}{h:St}{i:Act}{f:World}(b:bH B w U0 (nt.round d v w β s) c h i f)(n:nt.bd.free d=true):
  bH B w0 U0 nt c {h with marks:=s.marks} i f/\i.tmps[d]?=some v/\Below B w f/\dT w (Own U0 β s.heap) f (Own U0 c h.heap):=by
 have l:=b.defers.2;refine⟨⟨⟨g.mem.below.trans b.mem.below,b.mem.bsize,b.mem.u0,b.mem.h,b.mem.tab⟩,b.env,b.size,⟨b.defers.1,λk m=>?_⟩,g.keeps.trans b.keeps,g.cn.trans b.cn,g.marks⟩,?_,b.mem.below,b.keeps⟩
 .have j:k≠d:=λe=>Am n (e▸m)
  have:=l k (List.mem_cons_of_mem _ m);simp only[Cx.round,an j]at this;exact this
 .have:=l d (by simp[Cx.round]);simp only[Cx.round,bZ]at this;exact this
def nH{b:Array Oper}{Q:Exit->Act->World->Prop}{o:Oper}{c:List Oper}{k:Nat}(d:o.dst=some k)(e:o.guard=none){x:Value}{w':World}(f:(execOp a.eval o).run P w=.ok (.value x) w')(h:wpList P b Q c (a.put (some k) x) w'):wpList P b Q (o::c) a w:=by
 refine R6 e f ?_;rw[d];exact h
def KA(s:ByteArray)(pos:Nat):1<=(Utf8.decode s pos).2:=by
 unfold Utf8.decode;simp only;repeat' split
 all_goals simp
def bH.Z7(g:bH B w0 U0 nt β s a w){k:Nat}{v:Value}{d:DV}(c:a.tmps[k]?=some v)(f:bj w (Own U0 β s.heap) β s.heap s.next d v):bH B w0 U0 nt β {s with env:=fi s.env k d} a w:=by
 refine⟨g.mem,λj y b=>?_,g.size,g.defers,g.keeps,g.cn,g.marks⟩;rw[jQ]at b;split at b
 .rename_i e;subst e;cases b;exact⟨v,c,f⟩
 .exact g.env j y b
def pJ(a:Act)(k:Nat)(v:Value)(h:k<a.tmps.size):(a.put (some k) v).tmps[k]?=some v:=by simp[Act.put,h]
def mv(a:Act){k j:Nat}(v:Value)(h:k≠j):(a.put (some k) v).tmps[j]?=a.tmps[j]?:=by
 simp only[Act.put];rw[kL h]
def mE{a:Act}{k:Nat}{v:Value}(h:a.tmps[k]?=some v):a.eval (.tmp k)=v:=by simp[Act.eval,dA,h]
def yT{p nx:Nat}{G:(Exit->Act->World->Prop)->Act->World->Prop}{f:St->R}(i:uF B U0 {nt.bd with oQ:=p::nt.bd.oQ} f G){j:Value}{l:Nat}{d:DV}{v:Value}(g:bH B w0 U0 nt β s a w)(e:nt.bd.free p=true)(t:a.tmps[p]?=some j)(r:a.tmps[l]?=some v)
  (u:bj w (Own U0 β s.heap) β s.heap s.next d v){hid:List Nat}{m:Ex}{n:St}(E:f {s with env:=fi s.env l d,marks:=[]}=some (m,n)){K:Act->World->Prop}{Q:Exit->Act->World->Prop}
  (F:∀h c b,m=.normal->bH B w0 U0 nt b {n with env:=cT n.env hid,marks:=s.marks} h c->h.tmps[p]?=some j->Below B w c->dT w (Own U0 β s.heap) c (Own U0 b n.heap)->K h c)
  (x:m≠.normal->(∀id,m≠.exit id)/\∀h c b A,bH B w0 U0 nt b {n with marks:=s.marks} h c->tL c (Own U0 b n.heap) m A->Q A h c):G (Exit.inBlock nx (Exit.then K Q)) a w:=by
 have D:=g.Z7 r u;refine(i w (nt.round p j w β {s with env:=fi s.env l d}) rfl β _ a w m n (D.SO t e) E _ λh c b A H o=>?_);obtain⟨C,I,J,L⟩:=D.QQ H e;cases m with
 |normal=>
  cases o;exact F h c b rfl (C.Gp (gT.refl _) λk y M=>gQ hid _ _ _ M) I J L
 |exit id=>exact absurd rfl ((x aB).1 id)
 |ret=>cases o;exact(x aB).2 h c b _ C rfl
 |panic q=>obtain⟨z,rfl,N⟩:=o;exact(x aB).2 h c b _ C ⟨z,rfl,N⟩
def bH.YB(g:bH B w0 U0 nt β s a w){r:Nat}{b:ByteArray}{p q:Nat}(l:w.heap[r]?=some (.stringIter b p))(N:B<=r)(A:w0.heap.size<=r):bH B w0 U0 nt β s a {w with heap:=w.heap.setIfInBounds r (.stringIter b q)}:=by
 have m:∀U:Nat->Prop,dT w U {w with heap:=w.heap.setIfInBounds r (.stringIter b q)} U:=by
  intro U;refine⟨λb o C _ h=>?_,λ_ _ _ h _=>h⟩;rw[dw,an ?_]
  .exact h
  .rintro⟨rfl,_⟩;rw[l]at h;cases h;rcases C with⟨_,_,_,e⟩|⟨_,_,e⟩<;>cases e
 have D:Mem B w0 U0 β s.heap s.next {w with heap:=w.heap.setIfInBounds r (.stringIter b q)}:=by
  have u:Below B w0 {w with heap:=w.heap.setIfInBounds r (.stringIter b q)}:=by
   refine⟨g.mem.below.toBelow.trans ⟨rfl,rfl,rfl,aB,λk m=>by rw[dw,an ae]⟩,g.mem.below.drawn,λk o E e=>?_⟩;rw[dw,an ?_]
   .exact g.mem.below.iter k o E e
   .rintro⟨rfl,_⟩;have:=aM e;omega
  refine⟨u,by simpa using g.mem.bsize,g.mem.u0,⟨g.mem.h.lt,λid aY F=>?_,g.mem.h.inj⟩,λt G=>by
   obtain⟨x,T,H,n⟩:=g.mem.tab t G;exact⟨x,T,H,by rw[dw,an ae];exact n⟩⟩
  have c:=g.mem.h.aY id aY F;refine c.carry (m _) (ku.refl _ _ _) rfl λy O o j I=>?_
  rw[dw,an ?_]
  .exact I
  .rintro⟨rfl,_⟩;obtain⟨_,Q,n⟩:=c.there j;cases aY with
   |var f R=>obtain⟨y,q,z,T,k1,k2,k3,_⟩:=c;rw[j]at k1;simp only[aw,bQ]at k1;obtain⟨rfl,rfl⟩:=k1;rw[l]at k3;cases k3
   |row f J K|bh f J K=>
    rcases c with⟨_,k1⟩|⟨y,q,z,T,k1,k2,k3,_⟩
    .rw[j]at k1;cases k1
    .rw[j]at k1;simp only[aw,bQ]at k1;obtain⟨rfl,rfl⟩:=k1;rw[l]at k3;cases k3
   |map f L=>cases L<;>(obtain⟨y,q,S,V,k1,k2,k3,_⟩:=c;rw[j]at k1;simp only[aw,bQ]at k1;obtain⟨rfl,rfl⟩:=k1;rw[l]at k3;cases k3)
 exact⟨D,λi d M=>by
  obtain⟨v,x,n⟩:=g.env i d M;exact⟨v,x,n.cn (m _) (ku.refl _ _ _)⟩,g.size,g.defers,g.keeps.trans (m _),g.cn,g.marks⟩
def QN{m:Nat}{hid:List Nat}{i1 k i2 Z:Nat}{r1 r2:Array Oper}{r3:List Oper}{c:Nat}{bd:Code}{f:St->R}{o1 o2 o3 o4:Oper}{k1 p n1 i:Nat}{mt:TypeId}{hs:List Nat}
  (hF:Mw P nt.bd true m hid r1.toList r2.toList r3 c o1 o2 o3 o4 k1 p n1 i mt hs)
  (G:uF B U0 {nt.bd with oQ:=p::nt.bd.oQ} f (λQ a w=>bd.wp P Q a w))(g:bH B w0 U0 nt β s a w){b:ByteArray}(hb:ah s.env m=some (.p (.str b)))(D:∀t∈hid,ah s.env t=none)
  {e:Ex}{s':St}(l:dW f i hid ((runesFrom b (b.size+1) 0).map lR) s=some (e,s')){Q:Exit->Act->World->Prop}(hQ:∀H E o ex,bH B w0 U0 nt o s' H E->tL E (Own U0 o s'.heap) e ex->Q ex H E):
  (Code.seq (.region i1 r1 false) (.block k (.loop (.seq (.region i2 r2 false) (.seq (.cond (.tmp c) .skip (.exit k)) (.block Z bd)))))).wp P Q a w:=by
 obtain⟨E1,E2,Eh,⟨d1,p1,q1⟩,⟨d2,p2,q2⟩,⟨d3,p3,q3⟩,⟨d4,p4,q4⟩,L,A,ys,hk⟩:=hF;simp only[bZ]at hk;obtain⟨xh,rfl,rfl⟩:=hk;subst Eh;simp only[List.nodup_cons,List.mem_cons,List.not_mem_nil,or_false,not_or,List.nodup_nil,and_true,not_false_eq_true]at L;obtain⟨⟨x1,x2,x3⟩,⟨x4,x5⟩,x6⟩:=L;have hu:=oN xh;have I:=A p aB;have v:=A i aB;have M:=A k1 aB;have fc:=A c aB;have xj:=lJ I;have F:=lJ v;have xk:=lJ M;have lc:=lJ fc;obtain⟨vm,N,O⟩:=g.env _ _ hb;obtain rfl:=O.kR;refine wp_seq (wp_region_list ?_);rw[E1];refine nH d1 q1 (x:=.string b) (w':=w) (by simp[execOp,p1,mE N]) ?_;have g1:=g.kY (D k1 aB) M (.string b);have c1:(a.put (some k1) (.string b)).eval (.tmp k1)=.string b:=o7 _ _ _ (by rw[g.size];exact xk);generalize yx:a.put (some k1) (.string b)=aa at g1 c1;have C:(Instr.range mt (.string b)).run P w=.ok (.pointer (some ⟨w.heap.size,0,none⟩)) (w.alloc (.stringIter b 0)):=by
  simp[Instr.range,run_underlying hu,Result.andThen]
 refine nH d2 q2 (x:=.pointer (some ⟨w.heap.size,0,none⟩)) (w':=w.alloc (.stringIter b 0)) (by simp only[execOp,p2,c1,Sem.run_bind,C,Result.andThen_ok,Sem.run_pure]) ?_;have S:=(g1.kY (D p aB) I (.pointer (some ⟨w.heap.size,0,none⟩))).world (ix (Nat.le_refl _) (.stringIter b 0));have c2:(aa.put (some p) (.pointer (some ⟨w.heap.size,0,none⟩))).tmps[p]?=some (.pointer (some ⟨w.heap.size,0,none⟩)):=pJ _ _ _ (by rw[g1.size];exact xj);generalize aa.put (some p) (.pointer (some ⟨w.heap.size,0,none⟩))=ab at S c2;simp only[wpList]
 show Code.wp P _ Q _ _
 have xm:B<=w.heap.size:=g.mem.bsize;have T:w0.heap.size<=w.heap.size:=g.mem.below.size;have xn:(w.alloc (.stringIter b 0)).heap[w.heap.size]?=some (.stringIter b 0):=by rw[heap_alloc,aq rfl]
 generalize w.heap.size=r at*;have xo:∀(n pos:Nat) (s:St) (a:Act) (w:World) (β:Place),b.size-pos<n->bH B w0 U0 nt β s a w->(∀t∈[p,i,k1,c],ah s.env t=none)->a.tmps[p]?=some (.pointer (some ⟨r,0,none⟩))->
   w.heap[r]?=some (.stringIter b pos)->dW f i [p,i,k1,c] ((runesFrom b n pos).map lR) s=some (e,s')->
   pc P (.seq (.region i2 r2 false) (.seq (.cond (.tmp c) .skip (.exit k)) (.block Z bd))) (Exit.inBlock k Q) a w:=by
  intro n;induction n with
  |zero=>intro pos s a w β h;omega
  |succ n ih=>
  intro pos s a w β z0 g D U hr l;refine FF (wp_seq (wp_region_list ?_));rw[E2];have V:=mE U;by_cases hp:pos<b.size
  .have y:(Instr.next (.pointer (some ⟨r,0,none⟩)) true o3.type).run P w=.ok (.tuple #[.bool true,.int .i64 pos,.int .i32 (Utf8.decode b pos).1]) {w with heap:=w.heap.setIfInBounds r (.stringIter b (pos+(Utf8.decode b pos).2))}:=by
    simp[Instr.next,getObj,setObj,Sem.run,hr,hp,Result.andThen,goInt]
   have S:=g.YB (q:=pos+(Utf8.decode b pos).2) hr xm T;have xp:({w with heap:=w.heap.setIfInBounds r (.stringIter b (pos+(Utf8.decode b pos).2))}:World).heap[r]?=some (.stringIter b (pos+(Utf8.decode b pos).2)):=by rw[dw,aq ⟨rfl,aM hr⟩]
   generalize({w with heap:=w.heap.setIfInBounds r (.stringIter b (pos+(Utf8.decode b pos).2))}:World)=w2 at*;refine nH d3 q3 (x:=.tuple #[.bool true,.int .i64 pos,.int .i32 (Utf8.decode b pos).1]) (w':=w2) (by simp only[execOp,p3,V,Sem.run_bind,y,Result.andThen_ok,Sem.run_pure]) ?_;have W:=S.kY (D i aB) v (.tuple #[.bool true,.int .i64 pos,.int .i32 (Utf8.decode b pos).1]);have c3:=pJ a i (.tuple #[.bool true,.int .i64 pos,.int .i32 (Utf8.decode b pos).1]) (by rw[S.size];exact F);have i3:(a.put (some i) (.tuple #[.bool true,.int .i64 pos,.int .i32 (Utf8.decode b pos).1])).tmps[p]?=some (.pointer (some ⟨r,0,none⟩)):=by rw[mv _ _ (λe=>x1 e.symm)];exact U
   generalize a.put (some i) (.tuple #[.bool true,.int .i64 pos,.int .i32 (Utf8.decode b pos).1])=J at*;refine nH d4 q4 (x:=.bool true) (w':=w2) (by simp[execOp,p4,mE c3,Instr.extract]) ?_;have g4:=W.kY (D c aB) fc (.bool true);have c4:(J.put (some c) (.bool true)).eval (.tmp c)=.bool true:=o7 _ _ _ (by rw[W.size];exact lc);have c5:(J.put (some c) (.bool true)).tmps[i]?=some (.tuple #[.bool true,.int .i64 pos,.int .i32 (Utf8.decode b pos).1]):=by rw[mv _ _ (λe=>x5 e.symm)];exact c3
   have i5:(J.put (some c) (.bool true)).tmps[p]?=some (.pointer (some ⟨r,0,none⟩)):=by rw[mv _ _ (λe=>x3 e.symm)];exact i3
   generalize J.put (some c) (.bool true)=a4 at*;simp only[wpList];refine wp_seq (wp_cond_true c4 (wp_skip ?_))
   show Code.wp P _ _ _ _
   simp only[runesFrom,aq hp,List.map_cons,dW]at l;have xt:bj w2 (Own U0 β s.heap) β s.heap s.next (lR (pos,((Utf8.decode b pos).1:Int))) (.tuple #[.bool true,.int .i64 pos,.int .i32 (Utf8.decode b pos).1]):=by
    refine .tuple _ _ rfl λj d u=>?_
    match j,u with
    |0,u=>simp at u;subst u;exact .p _ _ (.bool _)
    |1,u=>simp at u;subst u;exact .p _ _ (.int _ _)
    |2,u=>simp at u;subst u;exact .p _ _ (.int _ _)
    |j+3,u=>simp at u
   cases hf:f {s with env:=fi s.env i (lR (pos,((Utf8.decode b pos).1:Int))),marks:=[]}with
   |none=>rw[hf]at l;cases l
   |some q=>
    obtain⟨e1,s1⟩:=q;rw[hf]at l;refine wp_block (yT (nx:=Z) (K:=pc P (.seq (.region i2 r2 false) (.seq (.cond (.tmp c) .skip (.exit k)) (.block Z bd))) (Exit.inBlock k Q)) (Q:=Exit.inBlock k Q) (hid:=[p,i,k1,c]) G g4 I i5 c5 xt hf (λH E o he g' X xw z5=>?_) (λxx=>⟨λid he=>?_,λH E o ex g' Y=>?_⟩))
    .subst he;simp only at l;have z6:=KA b pos;refine ih (pos+(Utf8.decode b pos).2) _ H E o ae g' (λt ht=>nz _ _ _ ht) X ?_ l;exact xw.iter r _ (.inr ⟨_,_,rfl⟩) xp
    .subst he;cases l
    .cases e1 with
     |normal=>exact absurd rfl xx
     |exit id=>cases l
     |ret=>
      simp only[aw,bQ]at l;obtain⟨rfl,rfl⟩:=l;cases Y;exact hQ H E o _ g' rfl
     |panic q=>
      simp only[aw,bQ]at l;obtain⟨rfl,rfl⟩:=l;obtain⟨z,rfl,hz⟩:=Y;exact hQ H E o _ g' ⟨z,rfl,hz⟩
  .have y:(Instr.next (.pointer (some ⟨r,0,none⟩)) true o3.type).run P w=.ok (.tuple #[.bool false]) w:=by
    simp[Instr.next,getObj,Sem.run,hr,hp,Result.andThen]
   refine nH d3 q3 (x:=.tuple #[.bool false]) (w':=w) (by simp only[execOp,p3,V,Sem.run_bind,y,Result.andThen_ok,Sem.run_pure]) ?_;have W:=g.kY (D i aB) v (.tuple #[.bool false]);have c3:=pJ a i (.tuple #[.bool false]) (by rw[g.size];exact F);generalize a.put (some i) (.tuple #[.bool false])=J at*;refine nH d4 q4 (x:=.bool false) (w':=w) (by simp[execOp,p4,mE c3,Instr.extract]) ?_;have g4:=W.kY (D c aB) fc (.bool false);have c4:(J.put (some c) (.bool false)).eval (.tmp c)=.bool false:=o7 _ _ _ (by rw[W.size];exact lc);simp only[wpList];refine wp_seq (wp_cond_false c4 (wp_exit ?_))
   show Exit.inBlock k Q (.exit k) _ _
   simp only[Exit.inBlock,bZ];simp only[runesFrom,an hp,List.map_nil,dW,aw,bQ]at l;obtain⟨rfl,rfl⟩:=l;exact hQ _ _ β _ g4 rfl
 exact wp_block (wV (xo (b.size+1) 0 s ab _ β ae S D c2 xn l))
def OP{b:Array MapEntry}{seen:Array Nat}{e:MapEntry}(h:e∈(leftOf b seen).toList):e∈b.toList:=(mem_left h).1
def Rc{m:Nat}{hid:List Nat}{i1 C i2 nx i3:Nat}{r1 r2 r3:Array Oper}{c:Nat}{bd:Code}{f g0:St->R}{o1 o2 o3 o4:Oper}{k1 J O v:Nat}{mt:TypeId}{hs:List Nat}
  (hF:Mw P nt.bd false m hid r1.toList r2.toList r3.toList c o1 o2 o3 o4 k1 J O v mt hs)
  (xg:uF B U0 {nt.bd with oQ:=J::nt.bd.oQ} f (λQ a w=>wpList P r3 (Exit.then (bd.wp P Q) Q) r3.toList.tail a w))(g:bH B w0 U0 nt β s a w){nn:Nat}{fm:SM}(hb:ah s.env m=some (.p (.map nn fm)))(Y:∀t∈hid,ah s.env t=none)
  {e:Ex}{s':St}(hd:∀l,eX fm l->(match dW f v hid (l.map λe=>jR e.1 e.2) s with|some (.normal,s')=>g0 s'|x=>x)=some (e,s')){Q:Exit->Act->World->Prop}(hQ:∀X U D ex,e≠.normal->bH B w0 U0 nt D s' X U->tL U (Own U0 D s'.heap) e ex->Q ex X U)
  (ys:∀X U D s1,bH B w0 U0 nt D s1 X U->g0 s1=some (e,s')->Q .normal X U):
  (Code.seq (.region i1 r1 false) (.block C (.loop (.seq (.region i2 r2 false) (.seq (.cond (.tmp c) .skip (.exit C)) (.block nx (.seq (.region i3 r3 false) bd))))))).wp P Q a w:=by
 obtain⟨E1,E2,Eh,⟨d1,p1,q1⟩,⟨d2,p2,q2⟩,⟨d3,p3,q3⟩,⟨d4,p4,q4⟩,xr,V,k6,hk⟩:=hF;simp only[Bool.false_eq_true,cy]at hk;obtain⟨yu,rfl,o5,k7,E3,d5,p5,q5⟩:=hk;subst Eh;simp only[List.nodup_cons,List.mem_cons,List.not_mem_nil,or_false,not_or,List.nodup_nil,and_true,not_false_eq_true]at xr;obtain⟨⟨x1,x2,x3,x4⟩,⟨x5,x6,x7⟩,⟨x8,x9⟩,ke⟩:=xr;obtain⟨kt,et,hu,kg⟩:=sg yu;have xh:=V J aB;have xc:=V v aB;have xt:=V k1 aB;have xi:=V O aB;have fc:=V c aB;have yw:=lJ xh;have xu:=lJ xc;have yx:=lJ xt;have xv:=lJ xi;have lc:=lJ fc;obtain⟨vm,xw,xx⟩:=g.env _ _ hb;obtain⟨b,u,i,rfl,N,Z,F⟩:∃b u i,vm=.map (some b)/\w.heap[b]?=some (.map u i)/\¬Own U0 β s.heap b/\ly u i nn fm:=by
  cases xx with|p _ _ hp=>cases hp with|map _ _ b u i h1 h2 h3=>exact⟨b,u,i,rfl,h1,h2,h3⟩
 refine wp_seq (wp_region_list ?_);rw[E1];refine nH d1 q1 (x:=.map (some b)) (w':=w) (by simp[execOp,p1,mE xw]) ?_;have g1:=g.kY (Y k1 aB) xt (.map (some b));have c1:(a.put (some k1) (.map (some b))).eval (.tmp k1)=.map (some b):=o7 _ _ _ (by rw[g.size];exact yx);generalize ki:a.put (some k1) (.map (some b))=aa at g1 c1;have x0:(Instr.range mt (.map (some b))).run P w=.ok (.pointer (some ⟨w.heap.size,0,none⟩)) (w.alloc (.mapIter (some b) i #[] i)):=by
  simp[Instr.range,run_underlying hu,MapKept.run_getObj_map N,Result.andThen]
 refine nH d2 q2 (x:=.pointer (some ⟨w.heap.size,0,none⟩)) (w':=w.alloc (.mapIter (some b) i #[] i)) (by simp only[execOp,p2,c1,Sem.run_bind,x0,Result.andThen_ok,Sem.run_pure]) ?_;have g2:=(g1.kY (Y J aB) xh (.pointer (some ⟨w.heap.size,0,none⟩))).world (ix (Nat.le_refl _) (.mapIter (some b) i #[] i));have c2:(aa.put (some J) (.pointer (some ⟨w.heap.size,0,none⟩))).tmps[J]?=some (.pointer (some ⟨w.heap.size,0,none⟩)):=pJ _ _ _ (by rw[g1.size];exact yw);generalize aa.put (some J) (.pointer (some ⟨w.heap.size,0,none⟩))=ab at g2 c2;simp only[wpList]
 show Code.wp P _ Q _ _
 have yz:B<=w.heap.size:=g.mem.bsize;have y2:w0.heap.size<=w.heap.size:=g.mem.below.size;have y3:b≠w.heap.size:=by have:=aM N;omega
 have z0:(w.alloc (.mapIter (some b) i #[] i)).heap[w.heap.size]?=some (.mapIter (some b) i #[] i):=by rw[heap_alloc,aq rfl]
 have z1:(w.alloc (.mapIter (some b) i #[] i)).heap[b]?=some (.map u i):=by rw[heap_alloc,an y3];exact N
 generalize w.heap.size=r at*;have y4:=F.By;obtain⟨o,E⟩:∃o:MapEntry->ByteArray×MV,∀x∈u.toList,x.key=.string (o x).1/\fm (o x).1=some (o x).2/\x.val=(o x).2.v:=by
  have:∀x:MapEntry,∃p:ByteArray×MV,x∈u.toList->x.key=.string p.1/\fm p.1=some p.2/\x.val=p.2.v:=λx=>by
   by_cases G:x∈u.toList
   .obtain⟨k,y,h1,h2,h3⟩:=F.to x G;exact⟨(k,y),λ_=>⟨h1,h2,h3⟩⟩
   .exact⟨(ByteArray.empty,.one (.bool false)),λh=>absurd h G⟩
  exact⟨λx=>(this x).choose,λx G=>(this x).choose_spec G⟩
 have xd:∀l:List MapEntry,l.Perm u.toList->eX fm (l.map o):=by
  intro l hl;refine⟨?_,λk y=>⟨λhm=>?_,λhf=>?_⟩⟩
  .rw[List.map_map];have hp:u.toList.Pairwise λx y=>(o x).1≠(o y).1:=by
    refine F.keys.imp_of_mem λ{x y} G hy xk e=>xk ?_
    rw[(E x G).1,(E y hy).1,e]
   have z3:(u.toList.map ((λx=>x.1)∘o)).Nodup:=by
    show List.Pairwise (·≠·) _
    rw[List.pairwise_map];exact hp
   exact((hl.map ((λx:ByteArray×MV=>x.1)∘o)).nodup_iff).2 z3
  .obtain⟨x,G,he⟩:=List.mem_map.1 hm;have:=E x (hl.mem_iff.1 G);rw[he]at this;exact this.2.1
  .obtain⟨x,G,h1⟩:=F.from_ k y hf;have h2:=E x G;rw[h1]at h2;obtain⟨h3,h4,h5⟩:=h2;have hk:k=(o x).1:=by simpa using h3
   refine List.mem_map.2 ⟨x,hl.mem_iff.2 G,?_⟩;rw[<-hk,hf]at h4;exact Prod.ext hk.symm (GU h4).symm
 have z4:∀(n:Nat) (done:List MapEntry) (S:St) (a:Act) (w:World) (β:Place) (seen:Array Nat) (cc:Nat),(leftOf u seen).size=n->bH B w0 U0 nt β S a w->(∀t∈[J,v,k1,O,c],ah S.env t=none)->a.tmps[J]?=some (.pointer (some ⟨r,0,none⟩))->
   w.heap[r]?=some (.mapIter (some b) i seen cc)->i<=cc->w.heap[b]?=some (.map u i)->¬Own U0 β S.heap b->(done++(leftOf u seen).toList).Perm u.toList->
   dW f v [J,v,k1,O,c] ((done.map o).map λe=>jR e.1 e.2) s=some (.normal,S)->
   pc P (.seq (.region i2 r2 false) (.seq (.cond (.tmp c) .skip (.exit C)) (.block nx (.seq (.region i3 r3 false) bd)))) (Exit.inBlock C Q) a w:=by
  intro n;induction n using Nat.strongRecOn with
  |ind n ih=>
  intro done S a w β seen cc xl g Y y7 hr z5 N Z H I;refine FF (wp_seq (wp_region_list ?_));rw[E2];have y8:=mE y7;rcases run_next_at (P:=P) w o3.type r b i cc seen u i hr N y4 z5 with⟨h0,L⟩|⟨x,G,T,xm,L⟩
  .refine nH d3 q3 (x:=.tuple #[.bool false]) (w':=w) (by simp only[execOp,p3,y8,Sem.run_bind,L,Result.andThen_ok,Sem.run_pure]) ?_;have g3:=g.kY (Y O aB) xi (.tuple #[.bool false]);have c3:=pJ a O (.tuple #[.bool false]) (by rw[g.size];exact xv);generalize a.put (some O) (.tuple #[.bool false])=a3 at*;refine nH d4 q4 (x:=.bool false) (w':=w) (by simp[execOp,p4,mE c3,Instr.extract]) ?_;have g4:=g3.kY (Y c aB) fc (.bool false);have c4:(a3.put (some c) (.bool false)).eval (.tmp c)=.bool false:=o7 _ _ _ (by rw[g3.size];exact lc);simp only[wpList];refine wp_seq (wp_cond_false c4 (wp_exit ?_))
   show Exit.inBlock C Q (.exit C) _ _
   simp only[Exit.inBlock,bZ];have z8:(leftOf u seen).toList=[]:=List.eq_nil_of_length_eq_zero (by simpa using h0);rw[z8,List.append_nil]at H;have:=hd (done.map o) (xd done H);rw[I]at this;exact ys _ _ β S g4 this
  .have yb:T.heap[b]?=some (.map u i):=by rcases xm with rfl|rfl<;>exact N
   have xe:T.heap[r]?=some (.mapIter (some b) i seen cc):=by rcases xm with rfl|rfl<;>exact hr
   have g1:bH B w0 U0 nt β S a T:=by
    rcases xm with rfl|rfl
    .exact g
    .exact g.world (eA _ _)
   have g2:=g1.iter xe yz y2 (.mapIter (some b) i (seen.push x.born) i) (by rintro(⟨_,_,_,e⟩|⟨_,_,e⟩)<;>cases e)
   have yc:=OP G;obtain⟨z9,ko,za⟩:=E x yc;have zb:(ChangeMaps.setBlock T r (.mapIter (some b) i (seen.push x.born) i))={T with heap:=T.heap.setIfInBounds r (.mapIter (some b) i (seen.push x.born) i)}:=rfl;rw[zb]at L;have xf:({T with heap:=T.heap.setIfInBounds r (.mapIter (some b) i (seen.push x.born) i)}:World).heap[r]?=some (.mapIter (some b) i (seen.push x.born) i):=by rw[dw,aq ⟨rfl,aM xe⟩]
   have W:({T with heap:=T.heap.setIfInBounds r (.mapIter (some b) i (seen.push x.born) i)}:World).heap[b]?=some (.map u i):=by rw[dw,an (λz=>y3 z.1.symm)];exact yb
   generalize({T with heap:=T.heap.setIfInBounds r (.mapIter (some b) i (seen.push x.born) i)}:World)=w2 at*;refine nH d3 q3 (x:=.tuple #[.bool true,x.key,x.val]) (w':=w2) (by simp only[execOp,p3,y8,Sem.run_bind,L,Result.andThen_ok,Sem.run_pure]) ?_;have g3:=g2.kY (Y O aB) xi (.tuple #[.bool true,x.key,x.val]);have c3:=pJ a O (.tuple #[.bool true,x.key,x.val]) (by rw[g2.size];exact xv);have zc:(a.put (some O) (.tuple #[.bool true,x.key,x.val])).tmps[J]?=some (.pointer (some ⟨r,0,none⟩)):=by rw[mv _ _ (λe=>x3 e.symm)];exact y7
   generalize a.put (some O) (.tuple #[.bool true,x.key,x.val])=a3 at*;refine nH d4 q4 (x:=.bool true) (w':=w2) (by simp[execOp,p4,mE c3,Instr.extract]) ?_;have g4:=g3.kY (Y c aB) fc (.bool true);have c4:(a3.put (some c) (.bool true)).eval (.tmp c)=.bool true:=o7 _ _ _ (by rw[g3.size];exact lc);have ye:(a3.put (some c) (.bool true)).tmps[J]?=some (.pointer (some ⟨r,0,none⟩)):=by rw[mv _ _ (λe=>x4 e.symm)];exact zc
   generalize a3.put (some c) (.bool true)=a4 at*;simp only[wpList];refine wp_seq (wp_cond_true c4 (wp_skip ?_))
   show Code.wp P _ _ _ _
   refine wp_block (wp_seq (wp_region_list ?_));have xa:=run_entry_at (P:=P) w2 r b i seen u i x xf W yc (H2 ⟨F.By,F.born⟩);rw[E3];refine nH d5 q5 (x:=.tuple #[x.key,x.val]) (w':=w2) (by simp only[execOp,p5,mE ye,Sem.run_bind,xa,Result.andThen_ok,Sem.run_pure]) ?_;have g5:=g4.kY (Y v aB) xc (.tuple #[x.key,x.val]);have c5:=pJ a4 v (.tuple #[x.key,x.val]) (by rw[g4.size];exact xu);have zd:(a4.put (some v) (.tuple #[x.key,x.val])).tmps[J]?=some (.pointer (some ⟨r,0,none⟩)):=by rw[mv _ _ (λe=>x1 e.symm)];exact ye
   generalize a4.put (some v) (.tuple #[x.key,x.val])=a5 at*;have ze:bj w2 (Own U0 β S.heap) β S.heap S.next (jR (o x).1 (o x).2) (.tuple #[x.key,x.val]):=by
    refine .tuple _ _ rfl λj d hj=>?_
    match j,hj with
    |0,hj=>simp at hj;subst hj;simp only[z9];exact .p _ _ (.str _)
    |1,hj=>simp at hj;subst hj;simp only[za];exact vV (Oq _)
    |j+2,hj=>simp at hj
   have yf:=DI (leftOf u seen).toList (List.Pairwise.sublist (by unfold leftOf;rw[Gt];exact List.filter_sublist) F.born) x G;rw[<-GO]at yf;have M:((done++[x])++(leftOf u (seen.push x.born)).toList).Perm u.toList:=by
    refine List.Perm.trans ?_ H;rw[List.append_assoc];exact List.Perm.append_left done yf.symm
   have A:=hd _ (xd _ M);rw[List.map_append,List.map_append,List.map_append,List.map_append,List.append_assoc,oD,I]at A;simp only[List.map_cons,List.map_nil,List.singleton_append,dW]at A;cases hf:f {S with env:=fi S.env v (jR (o x).1 (o x).2),marks:=[]}with
   |none=>rw[hf]at A;cases A
   |some q=>
    obtain⟨e1,s1⟩:=q;rw[hf]at A;have yg:=yT (nx:=nx) (K:=pc P (.seq (.region i2 r2 false) (.seq (.cond (.tmp c) .skip (.exit C)) (.block nx (.seq (.region i3 r3 false) bd)))) (Exit.inBlock C Q)) (Q:=Exit.inBlock C Q) (hid:=[J,v,k1,O,c]) xg g5 xh zd c5 ze hf (λX U D he g' yh zf yi=>?_) (λxk=>⟨λid he=>?_,λX U D ex g' yj=>?_⟩)
    .rw[E3]at yg;exact yg
    .subst he;refine ih _ ?_ (done++[x]) _ X U D (seen.push x.born) i rfl g' (λt ht=>nz _ _ _ ht) yh ?_ (Nat.le_refl _) ?_ ?_ M ?_
     .rw[<-xl];exact left_shrinks u seen x G
     .exact zf.iter r _ (.inl ⟨_,_,_,_,rfl⟩) xf
     .exact yi.block b _ .map Z W
     .exact yi.out b _ .map Z W
     .rw[List.map_append,List.map_append,oD,I];simp only[List.map_cons,List.map_nil,dW,hf]
    .subst he;cases A
    .cases e1 with
     |normal=>exact absurd rfl xk
     |exit id=>cases A
     |ret=>
      simp only[aw,bQ]at A;obtain⟨rfl,rfl⟩:=A;cases yj;exact hQ X U D _ aB g' rfl
     |panic q=>
      simp only[aw,bQ]at A;obtain⟨rfl,rfl⟩:=A;obtain⟨z,rfl,hz⟩:=yj;exact hQ X U D _ aB g' ⟨z,rfl,hz⟩
 refine wp_block (wV (z4 _ [] s ab _ β #[] i rfl g2 Y c2 z0 (Nat.le_refl _) z1 Z ?_ rfl));rw[List.nil_append];have:(leftOf u #[]).toList=u.toList:=by
  unfold leftOf;rw[Gt,List.filter_eq_self];intro a _;simp
 rw[this]
end
end
end Go.Dv
