/- Lemmas for the law of this claim. -/
import Derived.Test.YtcphhjkcgikdgaaGreatDoorP12
import Derived.Maps.RangeRun
set_option linter.all false
namespace Go.Dv
section
open Go.RowKit
def CR(H:Heap)(i:Nat)(a b:bq):aC (aC H i a) i b=aC H i b:=by
 induction H with
 |nil=>rfl
 |cons x r c=>
  obtain⟨k,v⟩:=x;simp only[aC];by_cases h:k=i
  .subst h;simp[aC]
  .have:(k==i)=false:=by simpa using h
   simp only[this,Bool.false_eq_true,cK,aC,c]
section
variable{P:Program}{B:Nat}{w0:World}{U0:Nat->Prop}{β:Place}{w:World}{nt:Cx}{s:St}{a:Act}{cf:aK}
def Va{b:Array Oper}{Q:Exit->Act->World->Prop}{o:Oper}{c:List Oper}{x:Value}{d:World}(e:o.guard=none)(f:(execOp a.eval o).run P w=.ok (.value x) d)(h:wpList P b Q c (a.put o.dst x) d):wpList P b Q (o::c) a w:=by
 have g:Region.wanted o (yielded b a.tmps)=true:=by simp[Region.wanted,e]
 simp only[wpList,g,cQ];exact .inl (fi f h)
def pL(a:Act)(k:Nat)(v:Value)(h:k<a.tmps.size):(a.put (some k) v).eval (.tmp k)=v:=by
 simp[Act.eval,Act.put,h]
def Qi(a:Act)(k:Option Nat)(v:Value):(a.put k v).tmps.size=a.tmps.size:=by
 cases k<;>simp[Act.put]
def bJ.lC(g:bJ B w0 U0 nt β s a w){k:Nat}(c:ag s.env k=none)(j:nt.bd.free k=true)(x:Value):bJ B w0 U0 nt β s (a.put (some k) x) w:=by
 refine⟨g.mem,λi d f=>?_,by rw[Qi];exact g.size,⟨g.defers.1,λq h=>?_⟩,g.keeps,g.cw,g.marks⟩
 case refine_2=>
  have b:k≠q:=λe=>AA j (e▸h)
  simp only[Act.put];rw[lq b];exact g.defers.2 q h
 obtain⟨v,l,m⟩:=g.env i d f;refine⟨v,?_,m⟩;have:k≠i:=λe=>by rw[e,f]at c;cases c
 simp only[Act.put];rw[lq this];exact l
def bJ.world(g:bJ B w0 U0 nt β s a w){b:World}(c:Below w.heap.size w b):bJ B w0 U0 nt β s a b:=by
 obtain⟨m,k⟩:=g.mem.call c;exact⟨m,λi d e=>by
  obtain⟨v,f,h⟩:=g.env i d e;exact⟨v,f,h.cw k (mn.refl _ _ _)⟩,g.size,g.defers,g.keeps.trans k,g.cw,g.marks⟩
def bJ.iter(g:bJ B w0 U0 nt β s a w){r:Nat}{m:Option Nat}{E:Nat}{F:Array Nat}{c:Nat}(n:w.heap[r]?=some (.mapIter m E F c))(S:B<=r)(G:w0.heap.size<=r)(o:Obj)(C:¬M9 o):bJ B w0 U0 nt β s a {w with heap:=w.heap.setIfInBounds r o}:=by
 have p:∀U:Nat->Prop,eJ w U {w with heap:=w.heap.setIfInBounds r o} U:=by
  intro U;refine⟨λb u H _ h=>?_,λ_ _ _ h _=>h⟩;rw[dC,ak ?_]
  .exact h
  .rintro⟨rfl,_⟩;rw[n]at h;cases h;rcases H with⟨_,_,_,e⟩|⟨_,_,e⟩<;>cases e
 have I:Mem B w0 U0 β s.heap s.next {w with heap:=w.heap.setIfInBounds r o}:=by
  have x:Below B w0 {w with heap:=w.heap.setIfInBounds r o}:=by
   refine⟨g.mem.below.toBelow.trans ⟨rfl,rfl,rfl,az,λk p=>by rw[dC,ak ae]⟩,g.mem.below.drawn,λk u C e=>?_⟩;rw[dC,ak ?_]
   .exact g.mem.below.iter k u C e
   .rintro⟨rfl,_⟩;have:=aO e;omega
  refine⟨x,by simpa using g.mem.bsize,g.mem.u0,⟨g.mem.h.lt,λid aZ J=>?_,g.mem.h.inj⟩,λt K=>by
   obtain⟨y,T,L,z⟩:=g.mem.tab t K;exact⟨y,T,L,by rw[dC,ak ae];exact z⟩⟩
  have j:=g.mem.h.aZ id aZ J;refine j.carry (p _) (mn.refl _ _ _) rfl λb V u l M=>?_
  rw[dC,ak ?_]
  .exact M
  .rintro⟨rfl,_⟩;cases aZ with
   |var f W=>obtain⟨D,q,A,T,k1,k2,k3,_⟩:=j;rw[l]at k1;simp only[ay,bY]at k1;obtain⟨rfl,rfl⟩:=k1;rw[n]at k3;cases k3
   |row f N O|aV f N O=>
    rcases j with⟨_,k1⟩|⟨D,q,A,T,k1,k2,k3,_⟩
    .rw[l]at k1;cases k1
    .rw[l]at k1;simp only[ay,bY]at k1;obtain⟨rfl,rfl⟩:=k1;rw[n]at k3;cases k3
   |map f Q=>cases Q<;>(obtain⟨D,q,X,Y,k1,k2,k3,_⟩:=j;rw[l]at k1;simp only[ay,bY]at k1;obtain⟨rfl,rfl⟩:=k1;rw[n]at k3;cases k3)
 exact⟨I,λi d R=>by
  obtain⟨v,y,z⟩:=g.env i d R;exact⟨v,y,z.cw (p _) (mn.refl _ _ _)⟩,g.size,g.defers,g.keeps.trans (p _),g.cw,g.marks⟩
def bJ.Hp(g:bJ B w0 U0 nt β s a w){c:Heap}(l:ig s.heap c){b:Env}(e:∀k d,ag b k=some d->ag s.env k=some d):bJ B w0 U0 nt β {s with env:=b,heap:=c} a w:=
 ⟨g.mem.less l,λk d f=>by
  obtain⟨v,h,i⟩:=g.env k d (e k d f);exact⟨v,h,i.cw (l.keeps w) (l.cw (Nat.le_refl _))⟩,g.size,g.defers,g.keeps.trans (l.keeps w),g.cw.trans (l.cw (Nat.le_refl _)),g.marks⟩
def pR(P:Program)(c:Code)(Q:Exit->Act->World->Prop)(a:Act)(w:World):Prop:=
 ∀(b:Frame) (k:List Item) (d:List Frame),∃e f g,Q e f g/\Arrives P (lone (b.at a (.code c::.inLoop c::k)) d w) b k d e f g
def yB{c:Code}{Q:Exit->Act->World->Prop}(h:pR P c Q a w):(Code.loop c).wp P Q a w:=by
 intro b k f;obtain⟨e,g,i,j,d⟩:=h b k f;exact⟨e,g,i,j,.of_steps (.one step_loop) d⟩
def FY{c:Code}{Q:Exit->Act->World->Prop}(h:c.wp P (Exit.then (pR P c Q) Q) a w):pR P c Q a w:=by
 intro b k p;obtain⟨e,i,j,q,f⟩:=h b (.inLoop c::k) p;cases e with
 |normal=>
  obtain⟨m,n,o,g,d⟩:=q b k p;exact⟨m,n,o,g,.of_steps (Steps.trans f (.one step_inLoop)) d⟩
 |exit id|goto l|ret|panic r|outgrown=>exact⟨_,i,j,q,.pass (x:=.inLoop c) rfl (λ_ _=>.inl az) f⟩
def D4:∀(l:List MapEntry),l.Pairwise (λx y=>x.born≠y.born)->∀e∈l,l.Perm (e::l.filter λx=>x.born !=e.born)
 |[],_,e,h=>by cases h
 |x::r,d,e,h=>by
  obtain⟨c,f⟩:=List.pairwise_cons.1 d;rcases List.mem_cons.1 h with rfl|h
  .have:(e::r).filter (λx=>x.born !=e.born)=r:=by
    rw[List.filter_cons_of_neg az];rw[List.filter_eq_self];intro y g;have:=c y g;simp only[GZ,tK];exact λe=>this e.symm
   rw[this]
  .have i:=D4 r f e h;have b:x.born≠e.born:=c e h;rw[List.filter_cons_of_pos (by simpa using b)];exact(List.Perm.cons x i).trans (List.Perm.swap e x _)
def HT(c:Array MapEntry)(seen:Array Nat)(b:Nat):(leftOf c (seen.push b)).toList=(leftOf c seen).toList.filter λx=>x.born !=b:=by
 unfold leftOf;rw[HD,HD,List.filter_filter];apply List.filter_congr;intro x _;rw[Array.contains_push];by_cases h:x.born=b
 .simp[h]
 .have d:(x.born==b)=false:=by simpa using h
  simp[h,d,bne]
end
end
section
open Go.RowKit
def uT(w:World)(U:Nat->Prop):Ex->Exit->Prop
 | .normal,x=>x=.normal
 | .exit id,x=>x=.exit id
 | .ret,x=>x=.ret
 | .panic p,x=>∃v,x=.panic [{v,recovered:=false}]/\bN w U p v
section
variable{P:Program}{B:Nat}{w0:World}{U0:Nat->Prop}{β:Place}{w:World}{nt:Cx}{s:St}{a:Act}{cf:aK}
def RC{o:Oper}{f:FuncId}{args:Array Value}{K:Act->World->Prop}{Q:Exit->Act->World->Prop}(c:(execOp a.eval o).run P w=.ok (.enter f args) w){G:Value->World->Prop}
  (h:Calls P f args w λe b=>∃x,e=.panicked [{v:=x,recovered:=false}]/\G x b)(d:∀x b,G x b->Q (.panic [{v:=x,recovered:=false}]) a b):o.wp P a w K Q:=by
 unfold Oper.wp;rw[c,Oper.upon_enter];refine h.mono ?_;rintro e b ⟨x,rfl,g⟩;exact d x b g
def bJ.aao(g:bJ B w0 U0 nt β s a w){v:DV}{c:Heap}{x:Value}{f:World}(h:Good B w0 U0 s.heap s.next β w v c s.next x f):
  ∃b,bJ B w0 U0 nt b {s with env:=[],heap:=c} a f/\bg f (Own U0 b c) b c s.next v x:=by
 obtain⟨b,m,k,e,d⟩:=h;exact⟨b,⟨m,λi y j=>by simp[ag]at j,g.size,g.defers,g.keeps.trans k,g.cw.trans e,g.marks⟩,d⟩
def Dk(H:bV P cf)(g:bJ B w0 U0 nt β s a w){k:Array Oper}{o:Oper}{d:aj}(I:rZ k o d=true)(m:oM P o.op d.op=true){v:PV}{u:Heap}(i:dieOf cf d s=some (v,u)){K:Act->World->Prop}{Q:Exit->Act->World->Prop}
  (J:∀n e E,bJ B w0 U0 nt e {s with env:=[],heap:=u} a n->uT n (Own U0 e u) (.panic v) E->Q E a n):if Region.wanted o (yielded k a.tmps)then o.wp P a w K Q\/(o.asks P a w/\LetsOut Q)else K (a.put o.dst undef) w:=by
 unfold dieOf at i;split at i
 case h_2=>cases i
 rename_i f args L y;cases z:gH s args with
 |none=>rw[z]at i;cases i
 |some l=>
 rw[z]at i;rw[Ac g I L];simp only[cQ];left;rw[y]at m;obtain⟨M,N,F,pos,A,guard⟩:=o;simp only at m;cases N<;>first|(simp[oM]at m;done)|skip
 rename_i c;simp only[oM,su,aL]at m;obtain⟨q,b⟩:=m;obtain⟨t,j,O⟩:=c;simp only at q b;split at q
 case h_2=>cases q
 rename_i G;simp only[cH]at q;subst q;obtain⟨R,C⟩:=qe g b z;obtain⟨r,h⟩:=H.dies _ _ _ _ _ _ i;refine RC (f:=G) (args:=j.map a.eval) ?_ (h B w0 U0 β w _ g.mem R C) λx n D=>?_
 .rw[qP (f:=G) (caps:=#[]) rfl,HE];exact ku r _
 .obtain⟨e,S,T⟩:=g.aao D;refine J n e _ S ⟨x,rfl,?_⟩;cases T with|p _ _ U=>exact U
def zc(u:bV P cf){m:Array Oper}{Q:Exit->Act->World->Prop}:∀(n:List Oper) (p:List (aj×List Nat)),cm P nt.bd m n (p.map (·.1))=true->∀(s:St) (a:Act) (w:World) (β:Place) (e:Ex) (h:St),bJ B w0 U0 nt β s a w->oT cf p s=some (e,h)->
  (∀q i c x,bJ B w0 U0 nt c h q i->uT i (Own U0 c h.heap) e x->Q x q i)->wpList P m Q n a w
 |[],[],_,s,a,w,β,e,h,g,b,t=>by
  simp only[oT,ay,bY]at b;obtain⟨rfl,rfl⟩:=b;exact t _ _ _ _ g rfl
 |o::n,(d,k)::p,l,s,a,w,β,e,h,g,b,t=>by
  simp only[List.map_cons,cm,aL]at l;obtain⟨⟨⟨F,C⟩,D⟩,G⟩:=l;simp only[oT]at b;cases z:cX cf d s with
  |some E=>
   rw[z]at b;simp only[wpList];exact jA u g F C D z λq i c A=>zc u n p G {E with env:=da E.env k} q i c e h (A.Hp (ig.refl _) λj y I=>gX k _ _ _ I) b t
  |none=>
   rw[z]at b;simp only at b;cases f:dieOf cf d s with
   |none=>rw[f]at b;cases b
   |some r=>
    obtain⟨v,H⟩:=r;rw[f]at b;simp only[ay,bY]at b;obtain⟨rfl,rfl⟩:=b;simp only[wpList];exact Dk u g C D f λi c x A J=>t _ _ _ _ A J
 |[],_::_,l,_,_,_,_,_,_,_,_,_=>by simp[cm]at l
 |_::_,[],l,_,_,_,_,_,_,_,_,_=>by simp[cm]at l
def Rr{d:dX}(e:d.tc=true){v:DV}{c:Heap}{b:Nat}(h:bf cf d s=some (v,c,b)):c=s.heap/\b=s.next:=by
 cases d<;>first|(simp[dX.tc]at e;done)|skip
 all_goals
  simp only[bf]at h
  (repeat'(split at h))<;>first|(cases h;done)|(cases h;exact⟨rfl,rfl⟩)
def qi{d:aj}(e:d.op.tc=true)(f:d.guard=none){c:St}(h:cX cf d s=some c):∃v,bf cf d.op s=some (v,s.heap,s.next)/\c={s with env:=dF s.env d.dst v}:=by
 unfold cX at h;rw[f]at h;simp only[gd]at h;cases b:bf cf d.op s with
 |none=>rw[b]at h;cases h
 |some r=>
  obtain⟨v,H,n⟩:=r;rw[b]at h;simp only[ay]at h;obtain⟨rfl,rfl⟩:=Rr e b;exact⟨v,rfl,h.symm⟩
def Js{d:aj}(b:d.guard=none){v:DV}{H:Heap}{n:Nat}(h:bf cf d.op s=some (v,H,n)):cX cf d s=some {s with env:=dF s.env d.dst v,heap:=H,next:=n}:=by
 unfold cX;rw[b];simp only[gd,h]
def Reads(l:List aj):Prop:=∀d∈l,d.op.tc=true/\d.guard=none
def uE:∀(l:List aj) (s b:St),Reads l->bO cf l s=some b->b.heap=s.heap/\b.next=s.next/\b.marks=s.marks
 |[],s,b,_,h=>by simp only[bO,ay]at h;subst h;exact⟨rfl,rfl,rfl⟩
 |d::l,s,b,c,h=>by
  simp only[bO]at h;cases e:cX cf d s with
  |none=>rw[e]at h;cases h
  |some g=>
   rw[e]at h;obtain⟨v,_,rfl⟩:=qi (c d az).1 (c d az).2 e;simp only at h;exact uE l {s with env:=dF s.env d.dst v} b (λx f=>c x (by simp[f])) h
def Bq{k:Option Nat}{v:DV}:∀(l:List aj) (s b:St),Reads l->(∀d∈l,∀j,k=some j->j∉d.rd/\d.dst≠some j)->bO cf l s=some b->bO cf l {s with env:=dF s.env k v}=some {b with env:=dF b.env k v}
 |[],s,b,_,_,h=>by simp only[bO,ay]at h;subst h;rfl
 |d::l,s,b,m,n,h=>by
  simp only[bO]at h⊢;cases f:cX cf d s with
  |none=>rw[f]at h;cases h
  |some t=>
   rw[f]at h;obtain⟨p,o⟩:=m d az;obtain⟨u,q,rfl⟩:=qi p o f;have c:=n d az;have r:bf cf d.op {s with env:=dF s.env k v}=some (u,s.heap,s.next):=by
    rw[<-q];refine wJ (λj g=>?_) rfl rfl;exact dI (λe=>(c j e).1 (by simp[aj.rd,g]))
   rw[Js o r];have:=Bq (k:=k) (v:=v) l _ b (λx i=>m x (by simp[i])) (λx i=>n x (by simp[i])) h;simp only at this⊢;rw[xA (e:=s.env) (d:=k) (d':=d.dst)]
   .exact this
   .intro j g;exact(c j g).2
def rh{k:Nat}:∀(l:List aj) (s b:St),Reads l->(∀d∈l,d.dst≠some k)->bO cf l s=some b->ag b.env k=ag s.env k
 |[],s,b,_,_,h=>by simp only[bO,ay]at h;subst h;rfl
 |d::l,s,b,c,g,h=>by
  simp only[bO]at h;cases e:cX cf d s with
  |none=>rw[e]at h;cases h
  |some i=>
   rw[e]at h;obtain⟨v,_,rfl⟩:=qi (c d az).1 (c d az).2 e;rw[rh l _ b (λx f=>c x (by simp[f])) (λx f=>g x (by simp[f])) h];exact dI (g d az)
def w8(cf:aK)(l:List aj)(b:aj)(post:List aj)(e:Ex)(f:St)(s:St):Prop:=
 ∃c,bO cf l s=some c/\
  ((∃d g,cX cf b c=some d/\bO cf l {s with heap:=d.heap,next:=d.next}=some g/\g.env=c.env/\bO cf post d=some f/\e=.normal)\/
   ∃v H,cX cf b c=none/\dieOf cf b c=some (v,H)/\e=.panic v/\f={s with env:=[],heap:=H})
def Qx{pre:List aj}{b:aj}{post:List aj}{e:Ex}{j:St}(h:l9 cf pre b post s=some (e,j)):w8 cf pre b post e j s:=by
 unfold l9 at h;cases f:bO cf pre s with
 |none=>rw[f]at h;cases h
 |some g=>
  rw[f]at h;simp only at h;refine⟨g,f,?_⟩;cases k:cX cf b g with
  |some d=>
   rw[k]at h;simp only at h;left;cases c:bO cf pre {s with heap:=d.heap,next:=d.next}with
   |none=>rw[c]at h;cases h
   |some l=>
    rw[c]at h;simp only at h;split at h
    .rename_i m;cases i:bO cf post d with
     |none=>rw[i]at h;cases h
     |some n=>
      rw[i]at h;simp only[ay,bY]at h;obtain⟨rfl,rfl⟩:=h;exact⟨d,l,rfl,c,m,i,rfl⟩
    .cases h
  |none=>
   rw[k]at h;simp only at h;right;cases c:dieOf cf b g with
   |none=>rw[c]at h;cases h
   |some r=>
    obtain⟨v,H⟩:=r;rw[c]at h;simp only[ay,bY]at h;obtain⟨rfl,rfl⟩:=h;exact⟨v,H,rfl,rfl,rfl,rfl⟩
def w8.read{l m:List aj}{d:aj}{c:aj}{post:List aj}{e:Ex}{E:St}(G:w8 cf (l++d::m) c post e E s)(F:Reads (l++d::m))(n:∀j∈l,iE j d=true)
  {k:Nat}(I:d.dst=some k)(o:∀x∈l++m,x.dst≠some k):∃r,cX cf d s=some r/\w8 cf (l++m) c post e E r:=by
 obtain⟨J,K,L⟩:=G;have b:=F d az;have p:Reads (l++m):=λx M=>F x (by
  rcases List.mem_append.1 M with h|h
  .exact List.mem_append.2 (.inl h)
  .exact List.mem_append.2 (.inr (by simp[h])))
 have f:=oQ _ _ _ n K;simp only[bO]at f;cases y:cX cf d s with
 |none=>rw[y]at f;cases f
 |some r=>
  rw[y]at f;simp only at f;refine⟨r,rfl,J,f,?_⟩;obtain⟨v,Q,rfl⟩:=qi b.1 b.2 y;rcases L with⟨z,N,A,C,t,D,O⟩|⟨u,H,A,C,t,D⟩
  .left;refine⟨z,N,A,?_,t,D,O⟩;have g:=oQ _ _ _ n C;simp only[bO]at g;cases i:cX cf d {s with heap:=z.heap,next:=z.next}with
   |none=>rw[i]at g;cases g
   |some q=>
    rw[i]at g;simp only at g;obtain⟨R,_,rfl⟩:=qi b.1 b.2 i;have k1:=rh (k:=k) _ _ _ p o f;have k2:=rh (k:=k) _ _ _ p o g;rw[t,k1]at k2;simp only[I,dF,kb,cQ,ay]at k2;subst k2;exact g
  .right;exact⟨u,H,A,C,t,by rw[D]⟩
def w8.call{l:List aj}{b:aj}{post:List aj}{e:Ex}{I:St}(V:w8 cf l b post e I s)(E:Reads l)(J:b.guard=none)(A:∀x∈l,apart x b=true):
  (∃Q,cX cf b s=some Q/\bO cf (l++post) Q=some I/\e=.normal)\/∃v H,dieOf cf b s=some (v,H)/\e=.panic v/\I={s with env:=[],heap:=H}:=by
 obtain⟨z,g,C⟩:=V;obtain⟨R,S,W⟩:=uE l s z E g;have m:∀j∈b.op.rd,ag z.env j=ag s.env j:=by
  intro j F;refine rh l s z E (λd i=>?_) g;have:=(apart_spec (A d i)).1 j (by simp[aj.rd,F]);exact this
 rcases C with⟨t2,G,o,c,K,L,X⟩|⟨u,H,o,c,K,L⟩
 .left;unfold cX at o;rw[J]at o;simp only[gd]at o;cases i:bf cf b.op z with
  |none=>rw[i]at o;cases o
  |some r=>
   obtain⟨v,H,n⟩:=r;rw[i]at o;simp only[ay]at o;subst o;have M:bf cf b.op s=some (v,H,n):=by
    rw[<-i];exact(wJ m R S).symm
   refine⟨_,Js J M,?_,X⟩;have D:=Bq (k:=b.dst) (v:=v) l _ G E (λd i j F=>by
    have a:=apart_spec (A d i);exact⟨λY=>a.2.1 j Y F,λh=>a.2.2 j h F⟩) c
   have N:=uE l _ G E c;have Z:({G with env:=dF G.env b.dst v}:St)={z with env:=dF z.env b.dst v,heap:=H,next:=n}:=by
    rw[K];obtain⟨T,U,a3⟩:=N;simp only at T U a3;rw[T,U,a3,W]
   rw[Z]at D;have O:∀(x y:List aj) (p q r:St),bO cf x p=some q->bO cf y q=some r->bO cf (x++y) p=some r:=by
    intro x;induction x with
    |nil=>intro y p q r g C;simp only[bO,ay]at g;subst g;exact C
    |cons d x ih=>
     intro y p q r g C;simp only[List.cons_append,bO]at g⊢;cases i:cX cf d p with
     |none=>rw[i]at g;cases g
     |some p1=>rw[i]at g;exact ih y p1 q r g C
   exact O _ _ _ _ _ D L
 .right;refine⟨u,H,?_,K,L⟩;unfold dieOf at c⊢;rw[J]at c⊢;simp only[gd]at c⊢;split at c
  .rename_i f args _ t;rw[t]at m;simp only[dX.rd]at m;rw[jE args m,R,S]at c
   first|exact c|(simp only[t];exact c)|(rw[t];exact c)
  .cases c
end
end
section
open Go.RowKit
section
variable{P:Program}{B:Nat}{w0:World}{U0:Nat->Prop}{β:Place}{w:World}{nt:Cx}{s:St}{a:Act}{cf:aK}
def DX(j:bV P cf){id:Nat}{ops:Array Oper}{ds:List (aj×List Nat)}(k:cm P nt.bd ops ops.toList (ds.map (·.1))=true)(g:bJ B w0 U0 nt β s a w){e:Ex}{d:St}(l:oT cf ds s=some (e,d))
  {Q:Exit->Act->World->Prop}(m:∀h f b i,bJ B w0 U0 nt b d h f->uT f (Own U0 b d.heap) e i->Q i h f):(Code.region id ops false).wp P Q a w:=
 wp_region_list (zc j _ _ k s a w β e d g l m)
def zC(p:bV P cf){ops:Array Oper}{Q:Exit->Act->World->Prop}{b:List Oper}:∀(j:List Oper) (ds:List aj),cm P nt.bd ops j ds=true->∀(s:St) (a:Act) (w:World) (β:Place) (i:St),bJ B w0 U0 nt β s a w->bO cf ds s=some i->
  (∀k l f,bJ B w0 U0 nt f i k l->wpList P ops Q b k l)->wpList P ops Q (j++b) a w
 |[],[],_,s,a,w,β,i,g,e,m=>by
  simp only[bO,ay]at e;subst e;exact m _ _ _ g
 |o::j,d::ds,h,s,a,w,β,i,g,e,m=>by
  simp only[cm,aL]at h;obtain⟨⟨⟨q,r⟩,t⟩,u⟩:=h;simp only[bO]at e;cases n:cX cf d s with
  |none=>rw[n]at e;cases e
  |some v=>
   rw[n]at e;simp only[List.cons_append,wpList];exact jA p g q r t n λk l f x=>zC p j ds u v k l f i x e m
 |[],_::_,h,_,_,_,_,_,_,_,_=>by simp[cm]at h
 |_::_,[],h,_,_,_,_,_,_,_,_=>by simp[cm]at h
def HO(J:bV P cf){id:Nat}{ops:Array Oper}{ds:List aj}{x:DO}(K:cm P nt.bd ops ops.toList.dropLast ds=true)
  (r:(match ops.toList.getLast? with
   |some o=>o.guard.isNone&&(match o.op with| .panic y=>bK y x|_=>false)
   |none=>false)=true)(g:bJ B w0 U0 nt β s a w){u:St}(E:bO cf ds s=some u){t:Nat}{v:PV}(L:u.ev x=some (.p (.iface t v)))
  {Q:Exit->Act->World->Prop}(M:∀m n h F,bJ B w0 U0 nt h {u with env:=[]} m n->uT n (Own U0 h u.heap) (.panic (.iface t v)) F->Q F m n):(Code.region id ops false).wp P Q a w:=by
 cases b:ops.toList.getLast? with
 |none=>rw[b]at r;cases r
 |some o=>
 rw[b]at r;simp only[aL,TE]at r;obtain⟨G,i⟩:=r;have j:ops.toList=ops.toList.dropLast++[o]:=by
  have A:ops.toList≠[]:=by intro e;rw[e]at b;cases b
  rw[List.getLast?_eq_some_getLast A]at b;simp only[ay]at b;rw[<-b];exact(List.dropLast_concat_getLast A).symm
 refine wp_region_list ?_;rw[j];refine zC J _ _ K s a w β u g E λm n h H=>?_
 obtain⟨C,T,l,pos,f,guard⟩:=o;simp only at G i;subst G;split at i
 case h_2=>cases i
 rename_i y;have N:=H.ev i L;cases N with|p _ _ I=>
 generalize O:m.eval y=z at I;cases I with|iface _ _ q R=>
 have S:Region.wanted (⟨C,.panic y,l,pos,f,none⟩:Oper) (yielded ops m.tmps)=true:=by simp[Region.wanted]
 simp only[wpList,S,cQ];left;have D:(execOp m.eval ⟨C,.panic y,l,pos,f,none⟩).run P n=.halt (.panic (.iface t q)) n:=by
  simp[execOp,O,Instr.panic,goPanic,Result.andThen,Sem.run]
 unfold Oper.wp;rw[D,Oper.upon_panic];exact M m n h _ (H.Hp (ig.refl _) λk d E=>by simp[ag]at E) ⟨_,rfl,.iface t v q R⟩
def lV{b:List aj}{c:Nat}:∀(k:Nat) (g:List Oper) (ds:List aj),jO b c k g ds=true->∀(i:Nat) (o:Oper) (d:aj),g[i]?=some o->ds[i]?=some d->
  (∀p∈direct o,p∈d.dy)/\(∀p∈d.dy,p<k+i/\(p∈direct o\/∃q∈direct o,∃e,b[q]?=some e/\p∈e.dy))/\∀j,j<k+i->j∈d.dy\/∃e,b[j]?=some e/\((k+i<c/\iE e d=true)\/(k+i=c/\apart e d=true)\/(c<k+i/\j≠c/\iE e d=true))
 |k,[],[],_,i,o,d,h,_=>by simp at h
 |k,o::g,d::ds,h,i,t,u,l,m=>by
  simp only[jO,aL]at h;obtain⟨⟨⟨v,x⟩,y⟩,z⟩:=h;cases i with
  |zero=>
   simp only[List.getElem?_cons_zero,ay]at l m;subst l;subst m;refine⟨λp r=>?_,λp r=>?_,λj A=>?_⟩
   .have:=List.all_eq_true.1 v p r;simpa using this
   .have:=List.all_eq_true.1 x p r;simp only[aL,df,ji,List.contains_iff_mem,List.any_eq_true]at this;refine⟨ae,?_⟩;rcases this.2 with h|⟨q,C,n⟩
    .exact .inl h
    .right;refine⟨q,C,?_⟩;cases f:b[q]? with
     |none=>rw[f]at n;cases n
     |some e=>rw[f]at n;exact⟨e,rfl,by simpa using n⟩
   .have:=List.all_eq_true.1 y j (by simpa using A);simp only[ji,List.contains_iff_mem]at this;rcases this with h|h
    .exact .inl h
    .right;cases f:b[j]? with
     |none=>rw[f]at h;cases h
     |some e=>
      rw[f]at h;simp only[ji,aL,df]at h;exact⟨e,rfl,by simpa[or_assoc,and_assoc]using h⟩
  |succ i=>
   simp only[List.getElem?_cons_succ]at l m;have:=lV (k+1) g ds z i t u l m;rw[show k+(i+1)=k+1+i from ae];exact this
 |k,[],_::_,h,_,_,_,_,_=>by simp[jO]at h
 |k,_::_,[],h,_,_,_,_,_=>by simp[jO]at h
def sy{ops:Array Oper}(b:Array Bool)(i:Nat):i∈Region.ready .any ops b↔i<ops.size/\b.getD i true=false/\∃o,ops[i]?=some o/\∀p∈direct o,b.getD p false=true:=by
 unfold Region.ready;simp only[List.mem_filter,List.mem_range,aL,kD];constructor
 .rintro⟨g,j,f⟩;have d:=nW g;rw[d]at f;simp only[Option.map_some,ka]at f;refine⟨g,j,ops[i],d,λp n=>?_⟩;unfold direct at n;obtain⟨e,k,rfl⟩:=List.mem_map.1 n;obtain⟨l,m⟩:=List.mem_filter.1 k;have:=(tW.1 f) e (by simpa using l);simpa[m]using this
 .rintro⟨g,j,o,d,f⟩;refine⟨g,j,?_⟩;rw[d];simp only[Option.map_some,ka];rw[tW];intro e k;by_cases h:Region.binds .any e=true
  .simp only[h,Bool.not_true,Bool.false_or];exact f e.on (List.mem_map.2 ⟨e,List.mem_filter.2 ⟨by simpa using k,h⟩,rfl⟩)
  .simp only[CN]at h;simp[h]
structure me(ops:Array Oper)(ds:List aj)(listed:Array Bool)(R:List Nat):Prop where
 size:listed.size=ops.size
 sorted:R.Pairwise (·<·)
 mem:∀i,i∈R↔i<ops.size/\listed.getD i true=false
 clo:∀i d,listed.getD i false=true->ds[i]?=some d->∀p∈d.dy,listed.getD p false=true
def me.HI{ops:Array Oper}{ds:List aj}{b:Array Bool}{R:List Nat}(h:me ops ds b R){p:Nat}(e:b.getD p false=true):p∉R:=by
 intro f;obtain⟨g,d⟩:=(h.mem p).1 f;have i:p<b.size:=by rw[h.size];exact g
 simp[i]at e d;rw[e]at d;cases d
def me.aaF{ops:Array Oper}{ds:List aj}{b:Array Bool}{R:List Nat}(h:me ops ds b R){p:Nat}(d:p<ops.size)(f:p∉R):b.getD p false=true:=by
 have g:p<b.size:=by rw[h.size];exact d
 have:¬b.getD p true=false:=λe=>f ((h.mem p).2 ⟨d,e⟩)
 simp[g]at this⊢;exact this
def me.more{ops:Array Oper}{ds:List aj}{b:Array Bool}{q r:List Nat}{i:Nat}(h:me ops ds b (q++i::r)){d:aj}(A:ds[i]?=some d)(C:∀p∈d.dy,b.getD p false=true):me ops ds (b.setIfInBounds i true) (q++r):=by
 have z:i<ops.size:=((h.mem i).1 az).1;have aC:∀k,(b.setIfInBounds i true).getD k true=if k=i then true else b.getD k true:=by
  intro k;rw[dH,dH];by_cases e:k=i
  .subst e;simp[h.size,z]
  .rw[lq (λh=>e h.symm),ak e]
 have f:∀k,(b.setIfInBounds i true).getD k false=true↔k=i\/b.getD k false=true:=by
  intro k;rw[dH,dH];by_cases e:k=i
  .subst e;simp[h.size,z]
  .rw[lq (λh=>e h.symm)];simp[e]
 have o:=List.pairwise_append.1 h.sorted;have l:=List.pairwise_cons.1 o.2.1;refine⟨by simp[h.size],List.pairwise_append.2 ⟨o.1,l.2,λx D y E=>o.2.2 x D y (by simp[E])⟩,λk=>?_,λk e g t p m=>?_⟩
 .rw[aC];constructor
  .intro g;have u:k∈q++i::r:=by
    rcases List.mem_append.1 g with h|h
    .exact List.mem_append.2 (.inl h)
    .exact List.mem_append.2 (.inr (by simp[h]))
   obtain⟨v,n⟩:=(h.mem k).1 u;have j:k≠i:=by
    rintro rfl;rcases List.mem_append.1 g with h|h
    .have:=o.2.2 k h k az;omega
    .have:=l.1 k h;omega
   rw[ak j];exact⟨v,n⟩
  .rintro⟨v,n⟩;split at n
   .cases n
   .rename_i j;have:=(h.mem k).2 ⟨v,n⟩;rcases List.mem_append.1 this with h|h
    .exact List.mem_append.2 (.inl h)
    .rcases List.mem_cons.1 h with h|h
     .exact absurd h j
     .exact List.mem_append.2 (.inr h)
 .rw[f];rcases(f k).1 g with g|g
  .subst g;rw[A]at t;cases t;exact .inr (C p m)
  .exact .inr (h.clo k e g t p m)
def pF(ds:List aj)(a b:List Nat):todo ds (a++b)=todo ds a++todo ds b:=by simp[todo,List.filterMap_append]
def CL{ds:List aj}{i:Nat}{d:aj}(h:ds[i]?=some d)(b:List Nat):todo ds (i::b)=d::todo ds b:=by simp[todo,List.filterMap_cons,h]
variable{ops:Array Oper}{ds:List aj}{c:Nat}
def vW(l:jO ds c 0 ops.toList ds=true){b:Array Bool}{R:List Nat}(m:me ops ds b R){i:Nat}{o:Oper}{d:aj}(g:ops[i]?=some o)(j:ds[i]?=some d)(f:∀p∈direct o,b.getD p false=true):∀p∈d.dy,b.getD p false=true:=by
 obtain⟨k1,k2,k3⟩:=lV 0 _ _ l i o d (by rw[eG];exact g) j;intro p n;rcases(k2 p n).2 with h|⟨q,r,e,t,k⟩
 .exact f p h
 .exact m.clo q e (f q r) t p k
def zO(j:ops.size=ds.length)(m:jO ds c 0 ops.toList ds=true){b:Array Bool}{i:Nat}{R:List Nat}(e:me ops ds b (i::R)):i∈Region.ready .any ops b:=by
 obtain⟨k,f⟩:=(e.mem i).1 az;have d:=nW k;have g:ds[i]?=some (ds[i]'ae):=List.getElem?_eq_getElem ae;obtain⟨k1,k2,_⟩:=lV 0 _ _ m i _ _ (by rw[eG];exact d) g;refine(sy b i).2 ⟨k,f,_,d,λp l=>e.aaF (by have:=(k2 p (k1 p l)).1;omega) λn=>?_⟩;have o:=(k2 p (k1 p l)).1;rcases List.mem_cons.1 n with h|h
 .omega
 .have:=(List.pairwise_cons.1 e.sorted).1 p h;omega
def HC(X:bV P cf)(I:cm P nt.bd ops ops.toList ds=true)(J:jO ds c 0 ops.toList ds=true){Q:Exit->Act->World->Prop}{T:St}(U:∀F G t,bJ B w0 U0 nt t T F G->Q .normal F G):
  ∀(k:Nat) (b:Array Bool) (R:List Nat) (s:St) (a:Act) (w:World) (β:Place),R.length<=k->me ops ds b R->c∉R->bJ B w0 U0 nt β s a w->bO cf (todo ds R) s=some T->
   wpAny P .any ops Q k b a w:=by
 obtain⟨n,z⟩:=fZ _ _ I;simp only[jV]at n;intro k;induction k with
 |zero=>
  intro b R s a w β hR p u g v;have L:R=[]:=List.eq_nil_of_length_eq_zero ae;subst L;simp only[todo,List.filterMap_nil,bO,ay]at v;subst v;refine⟨?_,U _ _ _ g⟩;cases M:Region.ready .any ops b with
  |nil=>rfl
  |cons i r=>
   have:=(sy b i).1 (by rw[M];simp);exact absurd ((p.mem i).2 ⟨this.1,this.2.1⟩) az
 |succ k Y=>
  intro b R s a w β hR p u g v;constructor
  .intro M;cases R with
   |nil=>
    simp only[todo,List.filterMap_nil,bO,ay]at v;subst v;exact U _ _ _ g
   |cons i r=>
    have:=zO n J p;rw[M]at this;simp at this
  .intro i N;obtain⟨Z,O,o,m,A⟩:=(sy b i).1 N;have l:ds[i]?=some (ds[i]'ae):=List.getElem?_eq_getElem ae;generalize x0:ds[i]'ae=d at l;obtain⟨k1,k2,k3⟩:=lV 0 _ _ J i o d (by rw[eG];exact m) l;obtain⟨m1,m2,m3⟩:=z i o d (by rw[eG];exact m) l;have S:i∈R:=(p.mem i).2 ⟨Z,O⟩;obtain⟨V,R2,rfl⟩:=List.append_of_mem S;have C:=vW J p m l A;have hs:=List.pairwise_append.1 p.sorted;have x:∀j∈todo ds V,iE j d=true:=by
    intro j hj;obtain⟨q,W,D⟩:=List.mem_filterMap.1 hj;have x7:q<i:=hs.2.2 q W i az;rcases k3 q ae with h|⟨e,H,h|h|h⟩
    .exact absurd (List.mem_append.2 (.inl W)) (p.HI (C q h))
    .rw[D]at H;cases H;exact h.2
    .exfalso;exact u (by rw[<-h.1,Nat.zero_add];simp)
    .rw[D]at H;cases H;exact h.2.2
   rw[pF,CL l]at v;have f:=oQ _ _ _ x v;simp only[bO]at f;cases y:cX cf d s with
   |none=>rw[y]at f;cases f
   |some s1=>
    rw[y]at f;have E:=jA (P:=P) (ops:=ops) (Q:=Q) X g m1 m2 m3 y (K:=wpAny P .any ops Q k (b.setIfInBounds i true)) λF G t g'=>by
     refine Y (b.setIfInBounds i true) (V++R2) s1 F G t (by simp at hR⊢;omega) (p.more l C) (λI=>u ?_) g' (by rw[pF];exact f);rcases List.mem_append.1 I with h|h
     .exact List.mem_append.2 (.inl h)
     .exact List.mem_append.2 (.inr (by simp[h]))
    unfold wpOp;rw[m];exact E
def GR(hc:bV P cf)(hm:cm P nt.bd ops ops.toList ds=true)(ho:jO ds c 0 ops.toList ds=true){call:aj}(u:ds[c]?=some call)(x5:call.guard=none){e:Ex}{s':St}{Q:Exit->Act->World->Prop}
  (O:∀i d,i<c->ds[i]?=some d->(d.op.tc=true/\d.guard=none)/\∃k,d.dst=some k)(x7:∀i j d d',i<c->j<c->i≠j->ds[i]?=some d->ds[j]?=some d'->d.dst≠d'.dst)
  (hQ:∀L F n ex,bJ B w0 U0 nt n s' L F->uT F (Own U0 n s'.heap) e ex->Q ex L F):
  ∀(l:Nat) (b:Array Bool) (y C:List Nat) (s:St) (a:Act) (w:World) (β:Place),(y++c::C).length<=l->me ops ds b (y++c::C)->bJ B w0 U0 nt β s a w->w8 cf (todo ds y) call (todo ds C) e s' s->
   wpAny P .any ops Q l b a w:=by
 obtain⟨G,R⟩:=fZ _ _ hm;simp only[jV]at G;intro l;induction l with
 |zero=>intro b y C s a w β hR;simp at hR
 |succ l ih=>
  intro b y C s a w β hR D g hA;have hs:=List.pairwise_append.1 D.sorted;have S:=List.pairwise_cons.1 hs.2.1;have z:∀q∈y,q<c:=λq t=>hs.2.2 q t c az
  have I:Reads (todo ds y):=λd hd=>by
   obtain⟨q,t,p⟩:=List.mem_filterMap.1 hd;exact(O q d (z q t) p).1
  constructor
  .intro hr;exfalso;cases y with
   |nil|cons i r=>
    have:=zO G ho D;rw[hr]at this;simp at this
  .intro i xb;obtain⟨hi,xc,o,E,T⟩:=(sy b i).1 xb;have f:ds[i]?=some (ds[i]'ae):=List.getElem?_eq_getElem ae;generalize xy:ds[i]'ae=d at f;obtain⟨k1,k2,k3⟩:=lV 0 _ _ ho i o d (by rw[eG];exact E) f;obtain⟨m1,m2,m3⟩:=R i o d (by rw[eG];exact E) f;have xf:i∈y++c::C:=(D.mem i).2 ⟨hi,xc⟩;have A:=vW ho D E f T;unfold wpOp;rw[E];rcases List.mem_append.1 xf with m|m
   ·
    obtain⟨r1,r2,rfl⟩:=List.append_of_mem m;have U:=z i m;obtain⟨k,hk⟩:=(O i d U f).2;rw[pF,CL f]at hA I;have J:=List.pairwise_append.1 hs.1;have K:∀j∈todo ds r1,iE j d=true:=by
     intro j hj;obtain⟨q,t,p⟩:=List.mem_filterMap.1 hj;have V:q<i:=J.2.2 q t i az;rcases k3 q ae with h|⟨e,M,h|h|h⟩
     .exact absurd (by simp[t]) (D.HI (A q h))
     .rw[p]at M;cases M;exact h.2
     .omega
     .omega
    have xh:∀x∈todo ds r1++todo ds r2,x.dst≠some k:=by
     intro x N;rw[<-pF]at N;obtain⟨q,t,p⟩:=List.mem_filterMap.1 N;have V:q≠i:=by
      rintro rfl;rcases List.mem_append.1 t with h|h
      .have:=J.2.2 q h q az;omega
      .have:=(List.pairwise_cons.1 J.2.1).1 q h;omega
     have xi:q<c:=z q (by
      rcases List.mem_append.1 t with h|h
      .exact List.mem_append.2 (.inl h)
      .exact List.mem_append.2 (.inr (by simp[h])))
     rw[<-hk];exact x7 q i x d xi U V p f
    obtain⟨s1,xj,xk⟩:=hA.read I K hk xh;refine jA (P:=P) (ops:=ops) (Q:=Q) hc g m1 m2 m3 xj λL F n W=>?_
    have xl:me ops ds b (r1++i::(r2++c::C)):=by simpa[List.append_assoc]using D
    have:=xl.more f A;refine ih (b.setIfInBounds i true) (r1++r2) C s1 L F n (by simp at hR⊢;omega) (by simpa[List.append_assoc]using this) W ?_;rw[pF];exact xk
   .rcases List.mem_cons.1 m with m|m
    ·
     subst m;rw[u]at f;cases f;have X:∀x∈todo ds y,apart x call=true:=by
      intro x N;obtain⟨q,t,p⟩:=List.mem_filterMap.1 N;rcases k3 q (by have:=z q t;omega)with h|⟨e,M,h|h|h⟩
      .exact absurd (List.mem_append.2 (.inl t)) (D.HI (A q h))
      .omega
      .rw[p]at M;cases M;exact h.2
      .omega
     rcases hA.call I x5 X with⟨s2,Y,xm,rfl⟩|⟨v,H,Z,rfl,rfl⟩
     .refine jA (P:=P) (ops:=ops) (Q:=Q) hc g m1 m2 m3 Y λL F n W=>?_
      refine HC hc hm ho (λxn xo x0 xp=>hQ xn xo x0 _ xp rfl) l (b.setIfInBounds i true) (y++C) s2 L F n (by simp at hR⊢;omega) (D.more u A) ?_ W (by rw[pF];exact xm);intro hm;rcases List.mem_append.1 hm with h|h
      .have:=z i h;omega
      .have:=S.1 i h;omega
     .exact Dk hc g m2 m3 Z λF n ex W N=>hQ _ _ _ _ W N
    ·
     exfalso;have y2:c<i:=S.1 i m;rcases k3 c ae with h|⟨e,M,h|h|h⟩
     .exact absurd az (D.HI (A c h))
     .omega
     .omega
     .exact absurd rfl h.2.1
def Hy(c n:Nat)(h:c<n):List.range n=List.range c++c::(List.range' (c+1) (n-(c+1))):=by
 have e:n=c+(1+(n-(c+1))):=ae;rw[List.range_eq_range',List.range_eq_range',e,<-List.range'_append_1,<-List.range'_append_1];have b:c+(1+(n-(c+1)))-(c+1)=n-(c+1):=ae;rw[Nat.zero_add,b];rfl
def tn{b d:Type}{f g:b->Option d}:∀(l:List b),(∀x∈l,f x=g x)->l.filterMap f=l.filterMap g
 |[],_=>rfl
 |x::r,h=>by
  rw[List.filterMap_cons,List.filterMap_cons,h x az,tn r λy e=>h y (by simp[e])]
def Pe(pre post:List aj):todo (pre++post) (List.range pre.length)=pre:=by
 refine c9 (tn _ λi b=>?_) (zU pre);rw[List.getElem?_append_left (by simpa using b)]
def NO(pre:List aj)(d:aj)(post:List aj):todo (pre++d::post) (List.range' (pre.length+1) post.length)=post:=by
 have:=wz post (pre++[d]);rw[List.length_append,List.length_singleton,List.append_assoc,List.singleton_append]at this;exact this
def DJ:∀(l:List aj),(l.filterMap (·.dst)).Nodup->∀(i j:Nat) (d g:aj) (k:Nat),i≠j->l[i]?=some d->l[j]?=some g->d.dst=some k->g.dst≠some k
 |[],_,i,j,d,g,k,_,h,_,_=>by simp at h
 |x::l,b,i,j,d,g,k,p,n,o,r=>by
  have e:∀(m:Nat) (y:aj),l[m]?=some y->∀q,y.dst=some q->q∈l.filterMap (·.dst):=λm y u q v=>List.mem_filterMap.2 ⟨y,List.mem_of_getElem? u,v⟩
  rw[List.filterMap_cons]at b;have t:(l.filterMap (·.dst)).Nodup:=by
   split at b
   .exact b
   .exact(List.nodup_cons.1 b).2
  intro f;cases i with
  |zero=>
   cases j with
   |zero=>exact p rfl
   |succ j=>
    simp only[List.getElem?_cons_zero,ay]at n;subst n;simp only[List.getElem?_cons_succ]at o;rw[r]at b;exact(List.nodup_cons.1 b).1 (e j g o k f)
  |succ i=>
   cases j with
   |zero=>
    simp only[List.getElem?_cons_zero,ay]at o;subst o;simp only[List.getElem?_cons_succ]at n;rw[f]at b;exact(List.nodup_cons.1 b).1 (e i d n k r)
   |succ j=>
    simp only[List.getElem?_cons_succ]at n o;exact DJ l t i j d g k ae n o r f
def CW(E:bV P cf)(n:P.follows .mixedOrders=true){id:Nat}{pre:List aj}{b:aj}{post:List aj}(v:cm P nt.bd ops ops.toList (pre++b::post)=true)
  (x:pre.all (λd=>d.op.tc&&d.guard.isNone&&d.dst.isSome&&(match b.dst with|some k=>!d.rd.contains k&&d.dst !=some k|none=>true))=true)(F:(pre.filterMap (·.dst)).Nodup)(q:b.guard.isNone=true)
  (G:jO (pre++b::post) pre.length 0 ops.toList (pre++b::post)=true)(g:bJ B w0 U0 nt β s a w){e:Ex}{r:St}(H:l9 cf pre b post s=some (e,r))
  {Q:Exit->Act->World->Prop}(I:∀y t o z,bJ B w0 U0 nt o r y t->uT t (Own U0 o r.heap) e z->Q z y t):(Code.region id ops true).wp P Q a w:=by
 refine wp_region_any n ?_;obtain⟨m,_⟩:=fZ _ _ v;simp only[jV]at m;have J:bJ B w0 U0 nt β s a w.drew:=g.world (eK _ _);have K:ops.size=pre.length+(1+post.length):=by rw[m];simp;omega
 have f:∀i d,i<pre.length->(pre++b::post)[i]?=some d->pre[i]?=some d:=λi d l h=>by rw[List.getElem?_append_left l]at h;exact h
 have p:∀i d,i<pre.length->(pre++b::post)[i]?=some d->d∈pre:=λi d l h=>List.mem_of_getElem? (f i d l h)
 refine GR E v G (call:=b) (by rw[List.getElem?_append_right (Nat.le_refl _)];simp) (by simpa using q) (λi d l h=>?_) (λi j d A l L u h M=>?_) I
  ops.size (Array.replicate ops.size false) (List.range pre.length) (List.range' (pre.length+1) post.length) s a w.drew β (by simp;omega) ?_ J ?_
 .have:=List.all_eq_true.1 x d (p i d l h);simp only[aL,TE]at this;exact⟨⟨this.1.1.1,this.1.1.2⟩,sG.1 this.1.2⟩
 .have C:=List.all_eq_true.1 x d (p i d l h);simp only[aL]at C;obtain⟨k,D⟩:=sG.1 C.1.2;rw[D];exact(DJ pre F i j d A k u (f i d l h) (f j A L M) D).symm
 .have hR:List.range pre.length++pre.length::List.range' (pre.length+1) post.length=List.range ops.size:=by
   rw[Hy pre.length ops.size ae,show ops.size-(pre.length+1)=post.length from ae]
  rw[hR];refine⟨az,List.pairwise_lt_range,λi=>?_,λi d h _=>?_⟩
  .simp only[List.mem_range];constructor
   .intro h;exact⟨h,by simp[h]⟩
   .exact λh=>h.1
  .exfalso;by_cases l:i<ops.size<;>simp[l]at h
 .rw[Pe,NO];exact Qx H
end
end
end Go.Dv
