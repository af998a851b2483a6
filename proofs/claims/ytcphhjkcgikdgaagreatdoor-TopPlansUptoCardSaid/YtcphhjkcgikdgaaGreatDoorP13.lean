/- Lemmas for the law of this claim. -/
import Derived.Test.YtcphhjkcgikdgaaGreatDoorP12
import Derived.Maps.RangeRun
set_option linter.all false
namespace Go.Dv
section
open Go.RowKit
section
variable{P:Program}{B:Nat}{w0:World}{U0:Nat->Prop}{β:Place}{w:World}{nt:Cx}{s:St}{a:Act}{cf:aI}
def R6{b:Array Oper}{Q:Exit->Act->World->Prop}{o:Oper}{c:List Oper}{x:Value}{d:World}(e:o.guard=none)(f:(execOp a.eval o).run P w=.ok (.value x) d)(h:wpList P b Q c (a.put o.dst x) d):wpList P b Q (o::c) a w:=by
 have g:Region.wanted o (yielded b a.tmps)=true:=by simp[Region.wanted,e]
 simp only[wpList,g,bZ];exact .inl (ez f h)
def o7(a:Act)(k:Nat)(v:Value)(h:k<a.tmps.size):(a.put (some k) v).eval (.tmp k)=v:=by
 simp[Act.eval,Act.put,h]
def PO(a:Act)(k:Option Nat)(v:Value):(a.put k v).tmps.size=a.tmps.size:=by
 cases k<;>simp[Act.put]
def bH.kY(g:bH B w0 U0 nt β s a w){k:Nat}(c:ah s.env k=none)(j:nt.bd.free k=true)(x:Value):bH B w0 U0 nt β s (a.put (some k) x) w:=by
 refine⟨g.mem,λi d f=>?_,by rw[PO];exact g.size,⟨g.defers.1,λq h=>?_⟩,g.keeps,g.cn,g.marks⟩
 case refine_2=>
  have b:k≠q:=λe=>Am j (e▸h)
  simp only[Act.put];rw[kL b];exact g.defers.2 q h
 obtain⟨v,l,m⟩:=g.env i d f;refine⟨v,?_,m⟩;have:k≠i:=λe=>by rw[e,f]at c;cases c
 simp only[Act.put];rw[kL this];exact l
def bH.world(g:bH B w0 U0 nt β s a w){b:World}(c:Below w.heap.size w b):bH B w0 U0 nt β s a b:=by
 obtain⟨m,k⟩:=g.mem.call c;exact⟨m,λi d e=>by
  obtain⟨v,f,h⟩:=g.env i d e;exact⟨v,f,h.cn k (ku.refl _ _ _)⟩,g.size,g.defers,g.keeps.trans k,g.cn,g.marks⟩
def bH.iter(g:bH B w0 U0 nt β s a w){r:Nat}{m:Option Nat}{E:Nat}{F:Array Nat}{c:Nat}(n:w.heap[r]?=some (.mapIter m E F c))(S:B<=r)(G:w0.heap.size<=r)(o:Obj)(C:¬LQ o):bH B w0 U0 nt β s a {w with heap:=w.heap.setIfInBounds r o}:=by
 have p:∀U:Nat->Prop,dT w U {w with heap:=w.heap.setIfInBounds r o} U:=by
  intro U;refine⟨λb u H _ h=>?_,λ_ _ _ h _=>h⟩;rw[dw,an ?_]
  .exact h
  .rintro⟨rfl,_⟩;rw[n]at h;cases h;rcases H with⟨_,_,_,e⟩|⟨_,_,e⟩<;>cases e
 have I:Mem B w0 U0 β s.heap s.next {w with heap:=w.heap.setIfInBounds r o}:=by
  have x:Below B w0 {w with heap:=w.heap.setIfInBounds r o}:=by
   refine⟨g.mem.below.toBelow.trans ⟨rfl,rfl,rfl,aB,λk p=>by rw[dw,an ae]⟩,g.mem.below.drawn,λk u C e=>?_⟩;rw[dw,an ?_]
   .exact g.mem.below.iter k u C e
   .rintro⟨rfl,_⟩;have:=aM e;omega
  refine⟨x,by simpa using g.mem.bsize,g.mem.u0,⟨g.mem.h.lt,λid aY J=>?_,g.mem.h.inj⟩,λt K=>by
   obtain⟨y,T,L,z⟩:=g.mem.tab t K;exact⟨y,T,L,by rw[dw,an ae];exact z⟩⟩
  have j:=g.mem.h.aY id aY J;refine j.carry (p _) (ku.refl _ _ _) rfl λb V u l M=>?_
  rw[dw,an ?_]
  .exact M
  .rintro⟨rfl,_⟩;cases aY with
   |var f W=>obtain⟨D,q,A,T,k1,k2,k3,_⟩:=j;rw[l]at k1;simp only[aw,bQ]at k1;obtain⟨rfl,rfl⟩:=k1;rw[n]at k3;cases k3
   |row f N O|bh f N O=>
    rcases j with⟨_,k1⟩|⟨D,q,A,T,k1,k2,k3,_⟩
    .rw[l]at k1;cases k1
    .rw[l]at k1;simp only[aw,bQ]at k1;obtain⟨rfl,rfl⟩:=k1;rw[n]at k3;cases k3
   |map f Q=>cases Q<;>(obtain⟨D,q,X,Y,k1,k2,k3,_⟩:=j;rw[l]at k1;simp only[aw,bQ]at k1;obtain⟨rfl,rfl⟩:=k1;rw[n]at k3;cases k3)
 exact⟨I,λi d R=>by
  obtain⟨v,y,z⟩:=g.env i d R;exact⟨v,y,z.cn (p _) (ku.refl _ _ _)⟩,g.size,g.defers,g.keeps.trans (p _),g.cn,g.marks⟩
def bH.Gp(g:bH B w0 U0 nt β s a w){c:Heap}(l:gT s.heap c){b:Env}(e:∀k d,ah b k=some d->ah s.env k=some d):bH B w0 U0 nt β {s with env:=b,heap:=c} a w:=
 ⟨g.mem.less l,λk d f=>by
  obtain⟨v,h,i⟩:=g.env k d (e k d f);exact⟨v,h,i.cn (l.keeps w) (l.cn (Nat.le_refl _))⟩,g.size,g.defers,g.keeps.trans (l.keeps w),g.cn.trans (l.cn (Nat.le_refl _)),g.marks⟩
def pc(P:Program)(c:Code)(Q:Exit->Act->World->Prop)(a:Act)(w:World):Prop:=
 ∀(b:Frame) (k:List Item) (d:List Frame),∃e f g,Q e f g/\Arrives P (lone (b.at a (.code c::.inLoop c::k)) d w) b k d e f g
def wV{c:Code}{Q:Exit->Act->World->Prop}(h:pc P c Q a w):(Code.loop c).wp P Q a w:=by
 intro b k f;obtain⟨e,g,i,j,d⟩:=h b k f;exact⟨e,g,i,j,.of_steps (.one step_loop) d⟩
def FF{c:Code}{Q:Exit->Act->World->Prop}(h:c.wp P (Exit.then (pc P c Q) Q) a w):pc P c Q a w:=by
 intro b k p;obtain⟨e,i,j,q,f⟩:=h b (.inLoop c::k) p;cases e with
 |normal=>
  obtain⟨m,n,o,g,d⟩:=q b k p;exact⟨m,n,o,g,.of_steps (Steps.trans f (.one step_inLoop)) d⟩
 |exit id|goto l|ret|panic r|outgrown=>exact⟨_,i,j,q,.pass (x:=.inLoop c) rfl (λ_ _=>.inl aB) f⟩
def DI:∀(l:List MapEntry),l.Pairwise (λx y=>x.born≠y.born)->∀e∈l,l.Perm (e::l.filter λx=>x.born !=e.born)
 |[],_,e,h=>by cases h
 |x::r,d,e,h=>by
  obtain⟨c,f⟩:=List.pairwise_cons.1 d;rcases List.mem_cons.1 h with rfl|h
  .have:(e::r).filter (λx=>x.born !=e.born)=r:=by
    rw[List.filter_cons_of_neg aB];rw[List.filter_eq_self];intro y g;have:=c y g;simp only[G5,ne_eq];exact λe=>this e.symm
   rw[this]
  .have i:=DI r f e h;have b:x.born≠e.born:=c e h;rw[List.filter_cons_of_pos (by simpa using b)];exact(List.Perm.cons x i).trans (List.Perm.swap e x _)
def GO(c:Array MapEntry)(seen:Array Nat)(b:Nat):(leftOf c (seen.push b)).toList=(leftOf c seen).toList.filter λx=>x.born !=b:=by
 unfold leftOf;rw[Gt,Gt,List.filter_filter];apply List.filter_congr;intro x _;rw[Array.contains_push];by_cases h:x.born=b
 .simp[h]
 .have d:(x.born==b)=false:=by simpa using h
  simp[h,d,bne]
end
end
section
open Go.RowKit
def tL(w:World)(U:Nat->Prop):Ex->Exit->Prop
 | .normal,x=>x=.normal
 | .exit id,x=>x=.exit id
 | .ret,x=>x=.ret
 | .panic p,x=>∃v,x=.panic [{v,recovered:=false}]/\bP w U p v
section
variable{P:Program}{B:Nat}{w0:World}{U0:Nat->Prop}{β:Place}{w:World}{nt:Cx}{s:St}{a:Act}{cf:aI}
def Sj{o:Oper}{f:FuncId}{args:Array Value}{K:Act->World->Prop}{Q:Exit->Act->World->Prop}(c:(execOp a.eval o).run P w=.ok (.enter f args) w){G:Value->World->Prop}
  (h:Calls P f args w λe b=>∃x,e=.panicked [{v:=x,recovered:=false}]/\G x b)(d:∀x b,G x b->Q (.panic [{v:=x,recovered:=false}]) a b):o.wp P a w K Q:=by
 unfold Oper.wp;rw[c,Oper.upon_enter];refine h.mono ?_;rintro e b ⟨x,rfl,g⟩;exact d x b g
def bH.aau(g:bH B w0 U0 nt β s a w){v:DV}{c:Heap}{x:Value}{f:World}(h:Good B w0 U0 s.heap s.next β w v c s.next x f):
  ∃b,bH B w0 U0 nt b {s with env:=[],heap:=c} a f/\bj f (Own U0 b c) b c s.next v x:=by
 obtain⟨b,m,k,e,d⟩:=h;exact⟨b,⟨m,λi y j=>by simp[ah]at j,g.size,g.defers,g.keeps.trans k,g.cn.trans e,g.marks⟩,d⟩
def CD(H:bS P cf)(g:bH B w0 U0 nt β s a w){k:Array Oper}{o:Oper}{d:ai}(I:qU k o d=true)(m:oh P o.op d.op=true){v:PV}{u:Heap}(i:dieOf cf d s=some (v,u)){K:Act->World->Prop}{Q:Exit->Act->World->Prop}
  (J:∀n e E,bH B w0 U0 nt e {s with env:=[],heap:=u} a n->tL n (Own U0 e u) (.panic v) E->Q E a n):if Region.wanted o (yielded k a.tmps)then o.wp P a w K Q\/(o.asks P a w/\LetsOut Q)else K (a.put o.dst undef) w:=by
 unfold dieOf at i;split at i
 case h_2=>cases i
 rename_i f args L y;cases z:gn s args with
 |none=>rw[z]at i;cases i
 |some l=>
 rw[z]at i;rw[zr g I L];simp only[bZ];left;rw[y]at m;obtain⟨M,N,F,pos,A,guard⟩:=o;simp only at m;cases N<;>first|(simp[oh]at m;done)|skip
 rename_i c;simp only[oh,sf,aO]at m;obtain⟨q,b⟩:=m;obtain⟨t,j,O⟩:=c;simp only at q b;split at q
 case h_2=>cases q
 rename_i G;simp only[cw]at q;subst q;obtain⟨R,C⟩:=pj g b z;obtain⟨r,h⟩:=H.dies _ _ _ _ _ _ i;refine Sj (f:=G) (args:=j.map a.eval) ?_ (h B w0 U0 β w _ g.mem R C) λx n D=>?_
 .rw[qn (f:=G) (caps:=#[]) rfl,HW];exact j3 r _
 .obtain⟨e,S,T⟩:=g.aau D;refine J n e _ S ⟨x,rfl,?_⟩;cases T with|p _ _ U=>exact U
def wR(u:bS P cf){m:Array Oper}{Q:Exit->Act->World->Prop}:∀(n:List Oper) (p:List (ai×List Nat)),b4 P nt.bd m n (p.map (·.1))=true->∀(s:St) (a:Act) (w:World) (β:Place) (e:Ex) (h:St),bH B w0 U0 nt β s a w->oE cf p s=some (e,h)->
  (∀q i c x,bH B w0 U0 nt c h q i->tL i (Own U0 c h.heap) e x->Q x q i)->wpList P m Q n a w
 |[],[],_,s,a,w,β,e,h,g,b,t=>by
  simp only[oE,aw,bQ]at b;obtain⟨rfl,rfl⟩:=b;exact t _ _ _ _ g rfl
 |o::n,(d,k)::p,l,s,a,w,β,e,h,g,b,t=>by
  simp only[List.map_cons,b4,aO]at l;obtain⟨⟨⟨F,C⟩,D⟩,G⟩:=l;simp only[oE]at b;cases z:cM cf d s with
  |some E=>
   rw[z]at b;simp only[wpList];exact jk u g F C D z λq i c A=>wR u n p G {E with env:=cT E.env k} q i c e h (A.Gp (gT.refl _) λj y I=>gQ k _ _ _ I) b t
  |none=>
   rw[z]at b;simp only at b;cases f:dieOf cf d s with
   |none=>rw[f]at b;cases b
   |some r=>
    obtain⟨v,H⟩:=r;rw[f]at b;simp only[aw,bQ]at b;obtain⟨rfl,rfl⟩:=b;simp only[wpList];exact CD u g C D f λi c x A J=>t _ _ _ _ A J
 |[],_::_,l,_,_,_,_,_,_,_,_,_=>by simp[b4]at l
 |_::_,[],l,_,_,_,_,_,_,_,_,_=>by simp[b4]at l
def OZ{d:dN}(e:d.sC=true){v:DV}{c:Heap}{b:Nat}(h:bg cf d s=some (v,c,b)):c=s.heap/\b=s.next:=by
 cases d<;>first|(simp[dN.sC]at e;done)|skip
 all_goals
  simp only[bg]at h
  (repeat'(split at h))<;>first|(cases h;done)|(cases h;exact⟨rfl,rfl⟩)
def pw{d:ai}(e:d.op.sC=true)(f:d.guard=none){c:St}(h:cM cf d s=some c):∃v,bg cf d.op s=some (v,s.heap,s.next)/\c={s with env:=dz s.env d.dst v}:=by
 unfold cM at h;rw[f]at h;simp only[gd]at h;cases b:bg cf d.op s with
 |none=>rw[b]at h;cases h
 |some r=>
  obtain⟨v,H,n⟩:=r;rw[b]at h;simp only[aw]at h;obtain⟨rfl,rfl⟩:=OZ e b;exact⟨v,rfl,h.symm⟩
def Kr{d:ai}(b:d.guard=none){v:DV}{H:Heap}{n:Nat}(h:bg cf d.op s=some (v,H,n)):cM cf d s=some {s with env:=dz s.env d.dst v,heap:=H,next:=n}:=by
 unfold cM;rw[b];simp only[gd,h]
def Reads(l:List ai):Prop:=∀d∈l,d.op.sC=true/\d.guard=none
def tB:∀(l:List ai) (s b:St),Reads l->bR cf l s=some b->b.heap=s.heap/\b.next=s.next/\b.marks=s.marks
 |[],s,b,_,h=>by simp only[bR,aw]at h;subst h;exact⟨rfl,rfl,rfl⟩
 |d::l,s,b,c,h=>by
  simp only[bR]at h;cases e:cM cf d s with
  |none=>rw[e]at h;cases h
  |some g=>
   rw[e]at h;obtain⟨v,_,rfl⟩:=pw (c d aB).1 (c d aB).2 e;simp only at h;exact tB l {s with env:=dz s.env d.dst v} b (λx f=>c x (by simp[f])) h
def AP{k:Option Nat}{v:DV}:∀(l:List ai) (s b:St),Reads l->(∀d∈l,∀j,k=some j->j∉d.rd/\d.dst≠some j)->bR cf l s=some b->bR cf l {s with env:=dz s.env k v}=some {b with env:=dz b.env k v}
 |[],s,b,_,_,h=>by simp only[bR,aw]at h;subst h;rfl
 |d::l,s,b,m,n,h=>by
  simp only[bR]at h⊢;cases f:cM cf d s with
  |none=>rw[f]at h;cases h
  |some t=>
   rw[f]at h;obtain⟨p,o⟩:=m d aB;obtain⟨u,q,rfl⟩:=pw p o f;have c:=n d aB;have r:bg cf d.op {s with env:=dz s.env k v}=some (u,s.heap,s.next):=by
    rw[<-q];refine wD (λj g=>?_) rfl rfl;exact dB (λe=>(c j e).1 (by simp[ai.rd,g]))
   rw[Kr o r];have:=AP (k:=k) (v:=v) l _ b (λx i=>m x (by simp[i])) (λx i=>n x (by simp[i])) h;simp only at this⊢;rw[vL (e:=s.env) (d:=k) (d':=d.dst)]
   .exact this
   .intro j g;exact(c j g).2
def qg{k:Nat}:∀(l:List ai) (s b:St),Reads l->(∀d∈l,d.dst≠some k)->bR cf l s=some b->ah b.env k=ah s.env k
 |[],s,b,_,_,h=>by simp only[bR,aw]at h;subst h;rfl
 |d::l,s,b,c,g,h=>by
  simp only[bR]at h;cases e:cM cf d s with
  |none=>rw[e]at h;cases h
  |some i=>
   rw[e]at h;obtain⟨v,_,rfl⟩:=pw (c d aB).1 (c d aB).2 e;rw[qg l _ b (λx f=>c x (by simp[f])) (λx f=>g x (by simp[f])) h];exact dB (g d aB)
def wh(cf:aI)(l:List ai)(b:ai)(post:List ai)(e:Ex)(f:St)(s:St):Prop:=
 ∃c,bR cf l s=some c/\
  ((∃d g,cM cf b c=some d/\bR cf l {s with heap:=d.heap,next:=d.next}=some g/\g.env=c.env/\bR cf post d=some f/\e=.normal)\/
   ∃v H,cM cf b c=none/\dieOf cf b c=some (v,H)/\e=.panic v/\f={s with env:=[],heap:=H})
def Pl{pre:List ai}{b:ai}{post:List ai}{e:Ex}{j:St}(h:lQ cf pre b post s=some (e,j)):wh cf pre b post e j s:=by
 unfold lQ at h;cases f:bR cf pre s with
 |none=>rw[f]at h;cases h
 |some g=>
  rw[f]at h;simp only at h;refine⟨g,f,?_⟩;cases k:cM cf b g with
  |some d=>
   rw[k]at h;simp only at h;left;cases c:bR cf pre {s with heap:=d.heap,next:=d.next}with
   |none=>rw[c]at h;cases h
   |some l=>
    rw[c]at h;simp only at h;split at h
    .rename_i m;cases i:bR cf post d with
     |none=>rw[i]at h;cases h
     |some n=>
      rw[i]at h;simp only[aw,bQ]at h;obtain⟨rfl,rfl⟩:=h;exact⟨d,l,rfl,c,m,i,rfl⟩
    .cases h
  |none=>
   rw[k]at h;simp only at h;right;cases c:dieOf cf b g with
   |none=>rw[c]at h;cases h
   |some r=>
    obtain⟨v,H⟩:=r;rw[c]at h;simp only[aw,bQ]at h;obtain⟨rfl,rfl⟩:=h;exact⟨v,H,rfl,rfl,rfl,rfl⟩
def wh.read{l m:List ai}{d:ai}{c:ai}{post:List ai}{e:Ex}{E:St}(G:wh cf (l++d::m) c post e E s)(F:Reads (l++d::m))(n:∀j∈l,iy j d=true)
  {k:Nat}(I:d.dst=some k)(o:∀x∈l++m,x.dst≠some k):∃r,cM cf d s=some r/\wh cf (l++m) c post e E r:=by
 obtain⟨J,K,L⟩:=G;have b:=F d aB;have p:Reads (l++m):=λx M=>F x (by
  rcases List.mem_append.1 M with h|h
  .exact List.mem_append.2 (.inl h)
  .exact List.mem_append.2 (.inr (by simp[h])))
 have f:=n6 _ _ _ n K;simp only[bR]at f;cases y:cM cf d s with
 |none=>rw[y]at f;cases f
 |some r=>
  rw[y]at f;simp only at f;refine⟨r,rfl,J,f,?_⟩;obtain⟨v,Q,rfl⟩:=pw b.1 b.2 y;rcases L with⟨z,N,A,C,t,D,O⟩|⟨u,H,A,C,t,D⟩
  .left;refine⟨z,N,A,?_,t,D,O⟩;have g:=n6 _ _ _ n C;simp only[bR]at g;cases i:cM cf d {s with heap:=z.heap,next:=z.next}with
   |none=>rw[i]at g;cases g
   |some q=>
    rw[i]at g;simp only at g;obtain⟨R,_,rfl⟩:=pw b.1 b.2 i;have k1:=qg (k:=k) _ _ _ p o f;have k2:=qg (k:=k) _ _ _ p o g;rw[t,k1]at k2;simp only[I,dz,jQ,bZ,aw]at k2;subst k2;exact g
  .right;exact⟨u,H,A,C,t,by rw[D]⟩
def wh.call{l:List ai}{b:ai}{post:List ai}{e:Ex}{I:St}(W:wh cf l b post e I s)(E:Reads l)(J:b.guard=none)(A:∀x∈l,apart x b=true):
  (∃Q,cM cf b s=some Q/\bR cf (l++post) Q=some I/\e=.normal)\/∃v H,dieOf cf b s=some (v,H)/\e=.panic v/\I={s with env:=[],heap:=H}:=by
 obtain⟨z,g,C⟩:=W;obtain⟨R,S,X⟩:=tB l s z E g;have m:∀j∈b.op.rd,ah z.env j=ah s.env j:=by
  intro j F;refine qg l s z E (λd i=>?_) g;have:=(apart_spec (A d i)).1 j (by simp[ai.rd,F]);exact this
 rcases C with⟨t2,G,o,c,K,L,Y⟩|⟨u,H,o,c,K,L⟩
 .left;unfold cM at o;rw[J]at o;simp only[gd]at o;cases i:bg cf b.op z with
  |none=>rw[i]at o;cases o
  |some r=>
   obtain⟨v,H,n⟩:=r;rw[i]at o;simp only[aw]at o;subst o;have M:bg cf b.op s=some (v,H,n):=by
    rw[<-i];exact(wD m R S).symm
   refine⟨_,Kr J M,?_,Y⟩;have D:=AP (k:=b.dst) (v:=v) l _ G E (λd i j F=>by
    have a:=apart_spec (A d i);exact⟨λZ=>a.2.1 j Z F,λh=>a.2.2 j h F⟩) c
   have N:=tB l _ G E c;have ht:({G with env:=dz G.env b.dst v}:St)={z with env:=dz z.env b.dst v,heap:=H,next:=n}:=by
    rw[K];obtain⟨T,U,V⟩:=N;simp only at T U V;rw[T,U,V,X]
   rw[ht]at D;have O:∀(x y:List ai) (p q r:St),bR cf x p=some q->bR cf y q=some r->bR cf (x++y) p=some r:=by
    intro x;induction x with
    |nil=>intro y p q r g C;simp only[bR,aw]at g;subst g;exact C
    |cons d x ih=>
     intro y p q r g C;simp only[List.cons_append,bR]at g⊢;cases i:cM cf d p with
     |none=>rw[i]at g;cases g
     |some p1=>rw[i]at g;exact ih y p1 q r g C
   exact O _ _ _ _ _ D L
 .right;refine⟨u,H,?_,K,L⟩;unfold dieOf at c⊢;rw[J]at c⊢;simp only[gd]at c⊢;split at c
  .rename_i f args _ t;rw[t]at m;simp only[dN.rd]at m;rw[jn args m,R,S]at c
   first|exact c|(simp only[t];exact c)|(rw[t];exact c)
  .cases c
end
end
section
open Go.RowKit
section
variable{P:Program}{B:Nat}{w0:World}{U0:Nat->Prop}{β:Place}{w:World}{nt:Cx}{s:St}{a:Act}{cf:aI}
def CZ(j:bS P cf){id:Nat}{ops:Array Oper}{ds:List (ai×List Nat)}(k:b4 P nt.bd ops ops.toList (ds.map (·.1))=true)(g:bH B w0 U0 nt β s a w){e:Ex}{d:St}(l:oE cf ds s=some (e,d))
  {Q:Exit->Act->World->Prop}(m:∀h f b i,bH B w0 U0 nt b d h f->tL f (Own U0 b d.heap) e i->Q i h f):(Code.region id ops false).wp P Q a w:=
 wp_region_list (wR j _ _ k s a w β e d g l m)
def yU(p:bS P cf){ops:Array Oper}{Q:Exit->Act->World->Prop}{b:List Oper}:∀(j:List Oper) (ds:List ai),b4 P nt.bd ops j ds=true->∀(s:St) (a:Act) (w:World) (β:Place) (i:St),bH B w0 U0 nt β s a w->bR cf ds s=some i->
  (∀k l f,bH B w0 U0 nt f i k l->wpList P ops Q b k l)->wpList P ops Q (j++b) a w
 |[],[],_,s,a,w,β,i,g,e,m=>by
  simp only[bR,aw]at e;subst e;exact m _ _ _ g
 |o::j,d::ds,h,s,a,w,β,i,g,e,m=>by
  simp only[b4,aO]at h;obtain⟨⟨⟨q,r⟩,t⟩,u⟩:=h;simp only[bR]at e;cases n:cM cf d s with
  |none=>rw[n]at e;cases e
  |some v=>
   rw[n]at e;simp only[List.cons_append,wpList];exact jk p g q r t n λk l f x=>yU p j ds u v k l f i x e m
 |[],_::_,h,_,_,_,_,_,_,_,_=>by simp[b4]at h
 |_::_,[],h,_,_,_,_,_,_,_,_=>by simp[b4]at h
def Gq(J:bS P cf){id:Nat}{ops:Array Oper}{ds:List ai}{x:DO}(K:b4 P nt.bd ops ops.toList.dropLast ds=true)
  (r:(match ops.toList.getLast? with
   |some o=>o.guard.isNone&&(match o.op with| .panic y=>bL y x|_=>false)
   |none=>false)=true)(g:bH B w0 U0 nt β s a w){u:St}(E:bR cf ds s=some u){t:Nat}{v:PV}(L:u.ev x=some (.p (.iface t v)))
  {Q:Exit->Act->World->Prop}(M:∀m n h F,bH B w0 U0 nt h {u with env:=[]} m n->tL n (Own U0 h u.heap) (.panic (.iface t v)) F->Q F m n):(Code.region id ops false).wp P Q a w:=by
 cases b:ops.toList.getLast? with
 |none=>rw[b]at r;cases r
 |some o=>
 rw[b]at r;simp only[aO,Q8]at r;obtain⟨G,i⟩:=r;have j:ops.toList=ops.toList.dropLast++[o]:=by
  have A:ops.toList≠[]:=by intro e;rw[e]at b;cases b
  rw[List.getLast?_eq_some_getLast A]at b;simp only[aw]at b;rw[<-b];exact(List.dropLast_concat_getLast A).symm
 refine wp_region_list ?_;rw[j];refine yU J _ _ K s a w β u g E λm n h H=>?_
 obtain⟨C,T,l,pos,f,guard⟩:=o;simp only at G i;subst G;split at i
 case h_2=>cases i
 rename_i y;have N:=H.ev i L;cases N with|p _ _ I=>
 generalize O:m.eval y=z at I;cases I with|iface _ _ q R=>
 have S:Region.wanted (⟨C,.panic y,l,pos,f,none⟩:Oper) (yielded ops m.tmps)=true:=by simp[Region.wanted]
 simp only[wpList,S,bZ];left;have D:(execOp m.eval ⟨C,.panic y,l,pos,f,none⟩).run P n=.halt (.panic (.iface t q)) n:=by
  simp[execOp,O,Instr.panic,goPanic,Result.andThen,Sem.run]
 unfold Oper.wp;rw[D,Oper.upon_panic];exact M m n h _ (H.Gp (gT.refl _) λk d E=>by simp[ah]at E) ⟨_,rfl,.iface t v q R⟩
def lF{b:List ai}{c:Nat}:∀(k:Nat) (g:List Oper) (ds:List ai),jw b c k g ds=true->∀(i:Nat) (o:Oper) (d:ai),g[i]?=some o->ds[i]?=some d->
  (∀p∈direct o,p∈d.dp)/\(∀p∈d.dp,p<k+i/\(p∈direct o\/∃q∈direct o,∃e,b[q]?=some e/\p∈e.dp))/\∀j,j<k+i->j∈d.dp\/∃e,b[j]?=some e/\((k+i<c/\iy e d=true)\/(k+i=c/\apart e d=true)\/(c<k+i/\j≠c/\iy e d=true))
 |k,[],[],_,i,o,d,h,_=>by simp at h
 |k,o::g,d::ds,h,i,t,u,l,m=>by
  simp only[jw,aO]at h;obtain⟨⟨⟨v,x⟩,y⟩,z⟩:=h;cases i with
  |zero=>
   simp only[List.getElem?_cons_zero,aw]at l m;subst l;subst m;refine⟨λp r=>?_,λp r=>?_,λj A=>?_⟩
   .have:=List.all_eq_true.1 v p r;simpa using this
   .have:=List.all_eq_true.1 x p r;simp only[aO,cp,iT,List.contains_iff_mem,List.any_eq_true]at this;refine⟨ae,?_⟩;rcases this.2 with h|⟨q,C,n⟩
    .exact .inl h
    .right;refine⟨q,C,?_⟩;cases f:b[q]? with
     |none=>rw[f]at n;cases n
     |some e=>rw[f]at n;exact⟨e,rfl,by simpa using n⟩
   .have:=List.all_eq_true.1 y j (by simpa using A);simp only[iT,List.contains_iff_mem]at this;rcases this with h|h
    .exact .inl h
    .right;cases f:b[j]? with
     |none=>rw[f]at h;cases h
     |some e=>
      rw[f]at h;simp only[iT,aO,cp]at h;exact⟨e,rfl,by simpa[or_assoc,and_assoc]using h⟩
  |succ i=>
   simp only[List.getElem?_cons_succ]at l m;have:=lF (k+1) g ds z i t u l m;rw[show k+(i+1)=k+1+i from ae];exact this
 |k,[],_::_,h,_,_,_,_,_=>by simp[jw]at h
 |k,_::_,[],h,_,_,_,_,_=>by simp[jw]at h
def rT{ops:Array Oper}(b:Array Bool)(i:Nat):i∈Region.ready .any ops b↔i<ops.size/\b.getD i true=false/\∃o,ops[i]?=some o/\∀p∈direct o,b.getD p false=true:=by
 unfold Region.ready;simp only[List.mem_filter,List.mem_range,aO,jW];constructor
 .rintro⟨g,j,f⟩;have d:=ni g;rw[d]at f;simp only[Option.map_some,il]at f;refine⟨g,j,ops[i],d,λp n=>?_⟩;unfold direct at n;obtain⟨e,k,rfl⟩:=List.mem_map.1 n;obtain⟨l,m⟩:=List.mem_filter.1 k;have:=(tS.1 f) e (by simpa using l);simpa[m]using this
 .rintro⟨g,j,o,d,f⟩;refine⟨g,j,?_⟩;rw[d];simp only[Option.map_some,il];rw[tS];intro e k;by_cases h:Region.binds .any e=true
  .simp only[h,Bool.not_true,Bool.false_or];exact f e.on (List.mem_map.2 ⟨e,List.mem_filter.2 ⟨by simpa using k,h⟩,rfl⟩)
  .simp only[Gx]at h;simp[h]
structure lL(ops:Array Oper)(ds:List ai)(listed:Array Bool)(R:List Nat):Prop where
 size:listed.size=ops.size
 sorted:R.Pairwise (·<·)
 mem:∀i,i∈R↔i<ops.size/\listed.getD i true=false
 clo:∀i d,listed.getD i false=true->ds[i]?=some d->∀p∈d.dp,listed.getD p false=true
def lL.Gz{ops:Array Oper}{ds:List ai}{b:Array Bool}{R:List Nat}(h:lL ops ds b R){p:Nat}(e:b.getD p false=true):p∉R:=by
 intro f;obtain⟨g,d⟩:=(h.mem p).1 f;have i:p<b.size:=by rw[h.size];exact g
 simp[i]at e d;rw[e]at d;cases d
def lL.Z5{ops:Array Oper}{ds:List ai}{b:Array Bool}{R:List Nat}(h:lL ops ds b R){p:Nat}(d:p<ops.size)(f:p∉R):b.getD p false=true:=by
 have g:p<b.size:=by rw[h.size];exact d
 have:¬b.getD p true=false:=λe=>f ((h.mem p).2 ⟨d,e⟩)
 simp[g]at this⊢;exact this
def lL.more{ops:Array Oper}{ds:List ai}{b:Array Bool}{q r:List Nat}{i:Nat}(h:lL ops ds b (q++i::r)){d:ai}(A:ds[i]?=some d)(C:∀p∈d.dp,b.getD p false=true):lL ops ds (b.setIfInBounds i true) (q++r):=by
 have z:i<ops.size:=((h.mem i).1 aB).1;have aH:∀k,(b.setIfInBounds i true).getD k true=if k=i then true else b.getD k true:=by
  intro k;rw[dA,dA];by_cases e:k=i
  .subst e;simp[h.size,z]
  .rw[kL (λh=>e h.symm),an e]
 have f:∀k,(b.setIfInBounds i true).getD k false=true↔k=i\/b.getD k false=true:=by
  intro k;rw[dA,dA];by_cases e:k=i
  .subst e;simp[h.size,z]
  .rw[kL (λh=>e h.symm)];simp[e]
 have o:=List.pairwise_append.1 h.sorted;have l:=List.pairwise_cons.1 o.2.1;refine⟨by simp[h.size],List.pairwise_append.2 ⟨o.1,l.2,λx D y E=>o.2.2 x D y (by simp[E])⟩,λk=>?_,λk e g t p m=>?_⟩
 .rw[aH];constructor
  .intro g;have u:k∈q++i::r:=by
    rcases List.mem_append.1 g with h|h
    .exact List.mem_append.2 (.inl h)
    .exact List.mem_append.2 (.inr (by simp[h]))
   obtain⟨v,n⟩:=(h.mem k).1 u;have j:k≠i:=by
    rintro rfl;rcases List.mem_append.1 g with h|h
    .have:=o.2.2 k h k aB;omega
    .have:=l.1 k h;omega
   rw[an j];exact⟨v,n⟩
  .rintro⟨v,n⟩;split at n
   .cases n
   .rename_i j;have:=(h.mem k).2 ⟨v,n⟩;rcases List.mem_append.1 this with h|h
    .exact List.mem_append.2 (.inl h)
    .rcases List.mem_cons.1 h with h|h
     .exact absurd h j
     .exact List.mem_append.2 (.inr h)
 .rw[f];rcases(f k).1 g with g|g
  .subst g;rw[A]at t;cases t;exact .inr (C p m)
  .exact .inr (h.clo k e g t p m)
def oY(ds:List ai)(a b:List Nat):todo ds (a++b)=todo ds a++todo ds b:=by simp[todo,List.filterMap_append]
def DE{ds:List ai}{i:Nat}{d:ai}(h:ds[i]?=some d)(b:List Nat):todo ds (i::b)=d::todo ds b:=by simp[todo,List.filterMap_cons,h]
variable{ops:Array Oper}{ds:List ai}{c:Nat}
def uZ(l:jw ds c 0 ops.toList ds=true){b:Array Bool}{R:List Nat}(m:lL ops ds b R){i:Nat}{o:Oper}{d:ai}(g:ops[i]?=some o)(j:ds[i]?=some d)(f:∀p∈direct o,b.getD p false=true):∀p∈d.dp,b.getD p false=true:=by
 obtain⟨k1,k2,k3⟩:=lF 0 _ _ l i o d (by rw[dZ];exact g) j;intro p n;rcases(k2 p n).2 with h|⟨q,r,e,t,k⟩
 .exact f p h
 .exact m.clo q e (f q r) t p k
def wX(j:ops.size=ds.length)(m:jw ds c 0 ops.toList ds=true){b:Array Bool}{i:Nat}{R:List Nat}(e:lL ops ds b (i::R)):i∈Region.ready .any ops b:=by
 obtain⟨k,f⟩:=(e.mem i).1 aB;have d:=ni k;have g:ds[i]?=some (ds[i]'ae):=List.getElem?_eq_getElem ae;obtain⟨k1,k2,_⟩:=lF 0 _ _ m i _ _ (by rw[dZ];exact d) g;refine(rT b i).2 ⟨k,f,_,d,λp l=>e.Z5 (by have:=(k2 p (k1 p l)).1;omega) λn=>?_⟩;have o:=(k2 p (k1 p l)).1;rcases List.mem_cons.1 n with h|h
 .omega
 .have:=(List.pairwise_cons.1 e.sorted).1 p h;omega
def G3(X:bS P cf)(I:b4 P nt.bd ops ops.toList ds=true)(J:jw ds c 0 ops.toList ds=true){Q:Exit->Act->World->Prop}{T:St}(U:∀F G t,bH B w0 U0 nt t T F G->Q .normal F G):
  ∀(k:Nat) (b:Array Bool) (R:List Nat) (s:St) (a:Act) (w:World) (β:Place),R.length<=k->lL ops ds b R->c∉R->bH B w0 U0 nt β s a w->bR cf (todo ds R) s=some T->
   wpAny P .any ops Q k b a w:=by
 obtain⟨n,z⟩:=fI _ _ I;simp only[jz]at n;intro k;induction k with
 |zero=>
  intro b R s a w β hR p u g v;have L:R=[]:=List.eq_nil_of_length_eq_zero ae;subst L;simp only[todo,List.filterMap_nil,bR,aw]at v;subst v;refine⟨?_,U _ _ _ g⟩;cases M:Region.ready .any ops b with
  |nil=>rfl
  |cons i r=>
   have:=(rT b i).1 (by rw[M];simp);exact absurd ((p.mem i).2 ⟨this.1,this.2.1⟩) aB
 |succ k Y=>
  intro b R s a w β hR p u g v;constructor
  .intro M;cases R with
   |nil=>
    simp only[todo,List.filterMap_nil,bR,aw]at v;subst v;exact U _ _ _ g
   |cons i r=>
    have:=wX n J p;rw[M]at this;simp at this
  .intro i N;obtain⟨Z,O,o,m,A⟩:=(rT b i).1 N;have l:ds[i]?=some (ds[i]'ae):=List.getElem?_eq_getElem ae;generalize x0:ds[i]'ae=d at l;obtain⟨k1,k2,k3⟩:=lF 0 _ _ J i o d (by rw[dZ];exact m) l;obtain⟨m1,m2,m3⟩:=z i o d (by rw[dZ];exact m) l;have S:i∈R:=(p.mem i).2 ⟨Z,O⟩;obtain⟨V,R2,rfl⟩:=List.append_of_mem S;have C:=uZ J p m l A;have hs:=List.pairwise_append.1 p.sorted;have x:∀j∈todo ds V,iy j d=true:=by
    intro j hj;obtain⟨q,W,D⟩:=List.mem_filterMap.1 hj;have x7:q<i:=hs.2.2 q W i aB;rcases k3 q ae with h|⟨e,H,h|h|h⟩
    .exact absurd (List.mem_append.2 (.inl W)) (p.Gz (C q h))
    .rw[D]at H;cases H;exact h.2
    .exfalso;exact u (by rw[<-h.1,Nat.zero_add];simp)
    .rw[D]at H;cases H;exact h.2.2
   rw[oY,DE l]at v;have f:=n6 _ _ _ x v;simp only[bR]at f;cases y:cM cf d s with
   |none=>rw[y]at f;cases f
   |some s1=>
    rw[y]at f;have E:=jk (P:=P) (ops:=ops) (Q:=Q) X g m1 m2 m3 y (K:=wpAny P .any ops Q k (b.setIfInBounds i true)) λF G t g'=>by
     refine Y (b.setIfInBounds i true) (V++R2) s1 F G t (by simp at hR⊢;omega) (p.more l C) (λI=>u ?_) g' (by rw[oY];exact f);rcases List.mem_append.1 I with h|h
     .exact List.mem_append.2 (.inl h)
     .exact List.mem_append.2 (.inr (by simp[h]))
    unfold wpOp;rw[m];exact E
def G0(hc:bS P cf)(hm:b4 P nt.bd ops ops.toList ds=true)(ho:jw ds c 0 ops.toList ds=true){call:ai}(u:ds[c]?=some call)(x5:call.guard=none){e:Ex}{s':St}{Q:Exit->Act->World->Prop}
  (O:∀i d,i<c->ds[i]?=some d->(d.op.sC=true/\d.guard=none)/\∃k,d.dst=some k)(x7:∀i j d d',i<c->j<c->i≠j->ds[i]?=some d->ds[j]?=some d'->d.dst≠d'.dst)
  (hQ:∀L F n ex,bH B w0 U0 nt n s' L F->tL F (Own U0 n s'.heap) e ex->Q ex L F):
  ∀(l:Nat) (b:Array Bool) (y C:List Nat) (s:St) (a:Act) (w:World) (β:Place),(y++c::C).length<=l->lL ops ds b (y++c::C)->bH B w0 U0 nt β s a w->wh cf (todo ds y) call (todo ds C) e s' s->
   wpAny P .any ops Q l b a w:=by
 obtain⟨G,R⟩:=fI _ _ hm;simp only[jz]at G;intro l;induction l with
 |zero=>intro b y C s a w β hR;simp at hR
 |succ l ih=>
  intro b y C s a w β hR D g hA;have hs:=List.pairwise_append.1 D.sorted;have S:=List.pairwise_cons.1 hs.2.1;have z:∀q∈y,q<c:=λq t=>hs.2.2 q t c aB
  have I:Reads (todo ds y):=λd hd=>by
   obtain⟨q,t,p⟩:=List.mem_filterMap.1 hd;exact(O q d (z q t) p).1
  constructor
  .intro hr;exfalso;cases y with
   |nil|cons i r=>
    have:=wX G ho D;rw[hr]at this;simp at this
  .intro i xb;obtain⟨hi,xc,o,E,T⟩:=(rT b i).1 xb;have f:ds[i]?=some (ds[i]'ae):=List.getElem?_eq_getElem ae;generalize xy:ds[i]'ae=d at f;obtain⟨k1,k2,k3⟩:=lF 0 _ _ ho i o d (by rw[dZ];exact E) f;obtain⟨m1,m2,m3⟩:=R i o d (by rw[dZ];exact E) f;have xf:i∈y++c::C:=(D.mem i).2 ⟨hi,xc⟩;have A:=uZ ho D E f T;unfold wpOp;rw[E];rcases List.mem_append.1 xf with m|m
   ·
    obtain⟨r1,r2,rfl⟩:=List.append_of_mem m;have U:=z i m;obtain⟨k,hk⟩:=(O i d U f).2;rw[oY,DE f]at hA I;have J:=List.pairwise_append.1 hs.1;have K:∀j∈todo ds r1,iy j d=true:=by
     intro j hj;obtain⟨q,t,p⟩:=List.mem_filterMap.1 hj;have V:q<i:=J.2.2 q t i aB;rcases k3 q ae with h|⟨e,M,h|h|h⟩
     .exact absurd (by simp[t]) (D.Gz (A q h))
     .rw[p]at M;cases M;exact h.2
     .omega
     .omega
    have xh:∀x∈todo ds r1++todo ds r2,x.dst≠some k:=by
     intro x N;rw[<-oY]at N;obtain⟨q,t,p⟩:=List.mem_filterMap.1 N;have V:q≠i:=by
      rintro rfl;rcases List.mem_append.1 t with h|h
      .have:=J.2.2 q h q aB;omega
      .have:=(List.pairwise_cons.1 J.2.1).1 q h;omega
     have xi:q<c:=z q (by
      rcases List.mem_append.1 t with h|h
      .exact List.mem_append.2 (.inl h)
      .exact List.mem_append.2 (.inr (by simp[h])))
     rw[<-hk];exact x7 q i x d xi U V p f
    obtain⟨s1,xj,xk⟩:=hA.read I K hk xh;refine jk (P:=P) (ops:=ops) (Q:=Q) hc g m1 m2 m3 xj λL F n W=>?_
    have xl:lL ops ds b (r1++i::(r2++c::C)):=by simpa[List.append_assoc]using D
    have:=xl.more f A;refine ih (b.setIfInBounds i true) (r1++r2) C s1 L F n (by simp at hR⊢;omega) (by simpa[List.append_assoc]using this) W ?_;rw[oY];exact xk
   .rcases List.mem_cons.1 m with m|m
    ·
     subst m;rw[u]at f;cases f;have X:∀x∈todo ds y,apart x call=true:=by
      intro x N;obtain⟨q,t,p⟩:=List.mem_filterMap.1 N;rcases k3 q (by have:=z q t;omega)with h|⟨e,M,h|h|h⟩
      .exact absurd (List.mem_append.2 (.inl t)) (D.Gz (A q h))
      .omega
      .rw[p]at M;cases M;exact h.2
      .omega
     rcases hA.call I x5 X with⟨s2,Y,xm,rfl⟩|⟨v,H,Z,rfl,rfl⟩
     .refine jk (P:=P) (ops:=ops) (Q:=Q) hc g m1 m2 m3 Y λL F n W=>?_
      refine G3 hc hm ho (λxn xo x0 xp=>hQ xn xo x0 _ xp rfl) l (b.setIfInBounds i true) (y++C) s2 L F n (by simp at hR⊢;omega) (D.more u A) ?_ W (by rw[oY];exact xm);intro hm;rcases List.mem_append.1 hm with h|h
      .have:=z i h;omega
      .have:=S.1 i h;omega
     .exact CD hc g m2 m3 Z λF n ex W N=>hQ _ _ _ _ W N
    ·
     exfalso;have y2:c<i:=S.1 i m;rcases k3 c ae with h|⟨e,M,h|h|h⟩
     .exact absurd aB (D.Gz (A c h))
     .omega
     .omega
     .exact absurd rfl h.2.1
def Hi(c n:Nat)(h:c<n):List.range n=List.range c++c::(List.range' (c+1) (n-(c+1))):=by
 have e:n=c+(1+(n-(c+1))):=ae;rw[List.range_eq_range',List.range_eq_range',e,<-List.range'_append_1,<-List.range'_append_1];have b:c+(1+(n-(c+1)))-(c+1)=n-(c+1):=ae;rw[Nat.zero_add,b];rfl
def sI{b d:Type}{f g:b->Option d}:∀(l:List b),(∀x∈l,f x=g x)->l.filterMap f=l.filterMap g
 |[],_=>rfl
 |x::r,h=>by
  rw[List.filterMap_cons,List.filterMap_cons,h x aB,sI r λy e=>h y (by simp[e])]
def OC(pre post:List ai):todo (pre++post) (List.range pre.length)=pre:=by
 refine cN (sI _ λi b=>?_) (zu pre);rw[List.getElem?_append_left (by simpa using b)]
def Li(pre:List ai)(d:ai)(post:List ai):todo (pre++d::post) (List.range' (pre.length+1) post.length)=post:=by
 have:=wF post (pre++[d]);rw[List.length_append,List.length_singleton,List.append_assoc,List.singleton_append]at this;exact this
def Dl:∀(l:List ai),(l.filterMap (·.dst)).Nodup->∀(i j:Nat) (d g:ai) (k:Nat),i≠j->l[i]?=some d->l[j]?=some g->d.dst=some k->g.dst≠some k
 |[],_,i,j,d,g,k,_,h,_,_=>by simp at h
 |x::l,b,i,j,d,g,k,p,n,o,r=>by
  have e:∀(m:Nat) (y:ai),l[m]?=some y->∀q,y.dst=some q->q∈l.filterMap (·.dst):=λm y u q v=>List.mem_filterMap.2 ⟨y,List.mem_of_getElem? u,v⟩
  rw[List.filterMap_cons]at b;have t:(l.filterMap (·.dst)).Nodup:=by
   split at b
   .exact b
   .exact(List.nodup_cons.1 b).2
  intro f;cases i with
  |zero=>
   cases j with
   |zero=>exact p rfl
   |succ j=>
    simp only[List.getElem?_cons_zero,aw]at n;subst n;simp only[List.getElem?_cons_succ]at o;rw[r]at b;exact(List.nodup_cons.1 b).1 (e j g o k f)
  |succ i=>
   cases j with
   |zero=>
    simp only[List.getElem?_cons_zero,aw]at o;subst o;simp only[List.getElem?_cons_succ]at n;rw[f]at b;exact(List.nodup_cons.1 b).1 (e i d n k r)
   |succ j=>
    simp only[List.getElem?_cons_succ]at n o;exact Dl l t i j d g k ae n o r f
def C2(E:bS P cf)(n:P.follows .mixedOrders=true){id:Nat}{pre:List ai}{b:ai}{post:List ai}(v:b4 P nt.bd ops ops.toList (pre++b::post)=true)
  (x:pre.all (λd=>d.op.sC&&d.guard.isNone&&d.dst.isSome&&(match b.dst with|some k=>!d.rd.contains k&&d.dst !=some k|none=>true))=true)(F:(pre.filterMap (·.dst)).Nodup)(q:b.guard.isNone=true)
  (G:jw (pre++b::post) pre.length 0 ops.toList (pre++b::post)=true)(g:bH B w0 U0 nt β s a w){e:Ex}{r:St}(H:lQ cf pre b post s=some (e,r))
  {Q:Exit->Act->World->Prop}(I:∀y t o z,bH B w0 U0 nt o r y t->tL t (Own U0 o r.heap) e z->Q z y t):(Code.region id ops true).wp P Q a w:=by
 refine wp_region_any n ?_;obtain⟨m,_⟩:=fI _ _ v;simp only[jz]at m;have J:bH B w0 U0 nt β s a w.drew:=g.world (eA _ _);have K:ops.size=pre.length+(1+post.length):=by rw[m];simp;omega
 have f:∀i d,i<pre.length->(pre++b::post)[i]?=some d->pre[i]?=some d:=λi d l h=>by rw[List.getElem?_append_left l]at h;exact h
 have p:∀i d,i<pre.length->(pre++b::post)[i]?=some d->d∈pre:=λi d l h=>List.mem_of_getElem? (f i d l h)
 refine G0 E v G (call:=b) (by rw[List.getElem?_append_right (Nat.le_refl _)];simp) (by simpa using q) (λi d l h=>?_) (λi j d A l L u h M=>?_) I
  ops.size (Array.replicate ops.size false) (List.range pre.length) (List.range' (pre.length+1) post.length) s a w.drew β (by simp;omega) ?_ J ?_
 .have:=List.all_eq_true.1 x d (p i d l h);simp only[aO,Q8]at this;exact⟨⟨this.1.1.1,this.1.1.2⟩,py.1 this.1.2⟩
 .have C:=List.all_eq_true.1 x d (p i d l h);simp only[aO]at C;obtain⟨k,D⟩:=py.1 C.1.2;rw[D];exact(Dl pre F i j d A k u (f i d l h) (f j A L M) D).symm
 .have hR:List.range pre.length++pre.length::List.range' (pre.length+1) post.length=List.range ops.size:=by
   rw[Hi pre.length ops.size ae,show ops.size-(pre.length+1)=post.length from ae]
  rw[hR];refine⟨aB,List.pairwise_lt_range,λi=>?_,λi d h _=>?_⟩
  .simp only[List.mem_range];constructor
   .intro h;exact⟨h,by simp[h]⟩
   .exact λh=>h.1
  .exfalso;by_cases l:i<ops.size<;>simp[l]at h
 .rw[OC,Li];exact Pl H
end
end
end Go.Dv
