/- Lemmas for the law of this claim. -/
import Derived.Test.YtcphhjkcgikdgaaGreatDoorP16
import Derived.Test.YtcphhjkcgikdgaaGreatDoorProg
import Derived.RangeFuncKeeps
import Derived.RangeFuncBound
import Derived.RangeFuncLeaves
import Derived.RangeFuncCalls
import Derived.Shelf.Abstract
import Derived.Shelf.RegionOpen
import Derived.WalkKit
import Derived.OwnWalkIn
import Derived.TacticsInMore
import Derived.LoopIn
set_option linter.all false
set_option maxRecDepth 100000
namespace Go.Dv.Tryz
section
open Go Go.Dv Go.RowKit Go.Proofs Go.Shelf
attribute [local go_sem] Oper.semAt_some
structure Nd where
 op:Int
 n:Int
 s:ByteArray
 x:Option Addr
 len:Nat
 cap:Nat
abbrev Nd.cs(e:Nd):Array Value:=#[.int .i64 e.op,.int .i64 e.n,.string e.s,.slice e.x e.len e.cap]
def Nd.v(e:Nd):Value:=.agg e.cs
def opsOf(l:List Nd):List Int:=l.map Nd.op
def vy:∀{c:List (List PV)},dO c=true->∀(i:Nat) (h:i<c.length),∃b n s f a,c[i]=[.int .i64 b,.int .i64 n,.str s,.slice f a]/\(dO a=true/\a.length<=4611686018427387904)/\aR (c.take (i+1))=aR (c.take i)++b::aR a
 |[],_,i,h=>by simp at h
 |r::p,d,i,h=>by
  simp only[dO,aO]at d;obtain⟨⟨e,g⟩,j⟩:=d;cases i with
  |zero=>
   split at e
   .rename_i b n s f a;simp only[yQ,rP,aO,and_true,true_and,cp]at g;exact⟨b,n,s,f,a,rfl,g,by simp[aR,w9,GP]⟩
   .cases e
  |succ i=>
   obtain⟨b,n,s,f,a,k,m,o⟩:=vy j i (by simpa using h);refine⟨b,n,s,f,a,by simpa using k,m,?_⟩;simp only[List.take_succ_cons,aR,o,List.append_assoc]
def tg(a:List (List PV))(i:Nat):aR a=aR (a.take i)++aR (a.drop i):=by rw[<-lN,List.take_append_drop]
abbrev DB(B:Nat)(w a:World):Prop:=Go.Dv.Below B w a
structure Ab(h0:Nat)(W W':World):Prop where
 db:DB h0 W W'
 same:∀(b:Nat) (o:Obj),(∀r,o≠.loop r)->W.heap[b]?=some o->W'.heap[b]?=some o
structure Kp(h0:Nat)(S:Nat->Prop)(W W':World):Prop where
 db:DB h0 W W'
 ks:dT W S W' S
def Kp.refl(h0:Nat)(S:Nat->Prop)(W:World):Kp h0 S W W:=⟨Go.Dv.Below.refl _ _,λ_ _ _ _ h=>h,λ_ _ _ h _=>h⟩
def Kp.trans{h0:Nat}{S:Nat->Prop}{A B C:World}(h:Kp h0 S A B)(k:Kp h0 S B C):Kp h0 S A C:=
 ⟨h.db.trans k.db,λb o c a e=>k.ks.block b o c a (h.ks.block b o c a e),λb o c a e=>a⟩
def Ab.kp{h0:Nat}{S:Nat->Prop}{A B:World}(h:Ab h0 A B):Kp h0 S A B:=
 ⟨h.db,λb o a _ e=>h.same b o (λr c=>by rcases a with⟨_,_,_,rfl⟩|⟨_,_,rfl⟩<;>cases c) e,λ_ _ _ d _=>d⟩
def Ab.trans{h0:Nat}{A B C:World}(h:Ab h0 A B)(k:Ab h0 B C):Ab h0 A C:=⟨h.db.trans k.db,λb o a e=>k.same b o a (h.same b o a e)⟩
def Ab.of{h0:Nat}{W a:World}(h:DB W.heap.size W a)(c:h0<=W.heap.size):Ab h0 W a:=⟨h.mono c,λb o _ e=>by rw[h.block b (aM e)];exact e⟩
def D0{h0 l:Nat}{W:World}{o b:Obj}(e:h0<=l)(h:W.heap[l]?=some o)(c:¬rI o):DB h0 W (W.putObj l b):=
 ⟨⟨rfl,rfl,rfl,aB,λk a=>World.putObj_heap_other ae⟩,Nat.le_refl _,λk q d a=>by
  rw[World.putObj_heap_other]
  .exact a
  .rintro rfl;rw[h]at a;cases a;exact c d⟩
def DG(r:Loop):¬rI (.loop r):=by rintro(⟨_,_,_,_,h⟩|⟨_,_,h⟩)<;>cases h
def Ek(d:Option (List Deferred)):¬rI (.deferred d):=by rintro(⟨_,_,_,_,h⟩|⟨_,_,h⟩)<;>cases h
def qs{h0 l:Nat}{W:World}{r a:Loop}(c:h0<=l)(h:W.heap[l]?=some (.loop r)):Ab h0 W (W.putObj l (.loop a)):=
 ⟨D0 c h (DG r),λb o d e=>by
  rw[World.putObj_heap_other]
  .exact e
  .rintro rfl;rw[h]at e;cases e;exact absurd rfl (d r)⟩
def xP{W:World}{a:Array Value}{T:TypeId}:(W.alloc (.cells a T)).heap[W.heap.size]?=some (.cells a T (0,0)):=World.alloc_heap_new W _
def F7{W:World}{S:Nat->Prop}{f:Bool}{b:List (List PV)}{a:Option Addr}{n c:Nat}(d:bP W S (.slice f b) (.slice a n c)):n=b.length:=by cases d<;>rfl
def Jv{W:World}{S:Nat->Prop}{f:Bool}{p:List (List PV)}{a:Option Addr}{n c:Nat}(M:dO p=true)(N:bP W S (.slice f p) (.slice a n c))(i:Nat)(u:i<p.length):
  ∃(x:Nd) (g:Bool) (o:List (List PV)) (b d:Nat),a=some ⟨b,d,none⟩/\(dO o=true/\o.length<=4611686018427387904)/\aR (p.take (i+1))=aR (p.take i)++x.op::aR o/\bP W S (.slice g o) (.slice x.x x.len x.cap)/\
   ∀q,dT W S q S->q.cell? ⟨b,d+i*4,none⟩=some (.int .i64 x.op)/\q.cell? ⟨b,d+i*4+1,none⟩=some (.int .i64 x.n)/\q.cell? ⟨b,d+i*4+2,none⟩=some (.string x.s)/\q.cell? ⟨b,d+i*4+3,none⟩=some (.slice x.x x.len x.cap):=by
 obtain⟨v,m,s,g,o,O,P,Q⟩:=vy M i u;cases N with
 |none=>simp at u
 |slice _ _ b d c R U T fz k V hc hf X Y w e h1 r=>
  have h:p[i]?=some [.int .i64 v,.int .i64 m,.str s,.slice g o]:=by rw[List.getElem?_eq_getElem u,O]
  have Z:R=4:=by have:=w _ (List.mem_of_getElem? h);simpa using this.symm
  subst Z;have E:=r i _ 0 _ h rfl;have F:=r i _ 1 _ h rfl;have G:=r i _ 2 _ h rfl;have t:=r i _ 3 _ h rfl;have H:=e i _ 0 _ h rfl;have I:=e i _ 1 _ h rfl;have K:=e i _ 2 _ h rfl;have L:=e i _ 3 _ h rfl;obtain⟨a3,n3,c3,y⟩:∃a n c,k i 3=.slice a n c:=by
   generalize k i 3=z at t;cases t<;>exact⟨_,_,_,rfl⟩
  have A:k i 0=.int .i64 v:=by generalize k i 0=z at E;cases E;rfl
  have B:k i 1=.int .i64 m:=by generalize k i 1=z at F;cases F;rfl
  have C:k i 2=.string s:=by generalize k i 2=z at G;cases G;rfl
  rw[y]at t L;rw[A]at H;rw[B]at I;rw[C]at K;refine⟨⟨v,m,s,a3,n3,c3⟩,g,o,b,d,rfl,P,Q,t,λq D=>?_⟩;have j:=D.block _ _ .mk Y X;exact⟨bT j H,bT j I,bT j K,bT j L⟩
section
variable{l h0:Nat}{S:Nat->Prop}{Pr:Int->Prop}{J Jx:List Nd->World->Prop}
def F5(hA:∀s W W',J s W->DB W.heap.size W W'->J s W')(hS:∀s W,J s W->h0<=W.heap.size/\∀b,S b->b<W.heap.size)
  (hY:∀m pre x W,J pre W->Pr x.op->YieldAt Fence.wide m Proofs.Tryz.prog l #[x.v] W λe W'=>
   (e=.returned (.bool true)/\J (pre++[x]) W'/\Kp h0 S W W')\/(e=.returned (.bool false)/\Jx (pre++[x]) W')):
  ∀(k n:Nat) (f:Bool) (xs:List (List PV)) (e:Nd) (pre:List Nd) (W:World),(aR xs).length<k->dO xs=true/\xs.length<=4611686018427387904->(∀o∈e.op::aR xs,Pr o)->bP W S (.slice f xs) (.slice e.x e.len e.cap)->J pre W->
   CallsIn Fence.wide n Proofs.Tryz.prog 207 #[e.v,.func (.yield l) #[] #[]] W λr W'=>
    (r=.returned (.bool true)/\∃ys,opsOf ys=e.op::aR xs/\J (pre++ys) W'/\Kp h0 S W W')\/(r=.returned (.bool false)/\∃ys zs,opsOf ys++zs=e.op::aR xs/\Jx (pre++ys) W')
 |0,n,f,xs,e,pre,W,hk,_,_,_,_=>ae
 |k+1,n,f,xs,e,pre,W,hk,ht,p,hp,hJ=>by
  have q:DB W.heap.size W (W.alloc (.cells e.cs 88)):=(Go.Dv.Below.refl _ W).alloc (Nat.le_refl _) _;have hJ1:=hA _ _ _ hJ q;have hbox:(W.alloc (.cells e.cs 88)).heap[W.heap.size]?=some (.cells e.cs 88 (0,0)):=xP;have hdd:∀k:Nat,(Fence.wide.depth.isSome=true->1<=k):=λk h=>by cases h
  have hSW:¬S W.heap.size:=λh=>by have:=(hS _ _ hJ).2 _ h;omega
  obtain⟨fn,tmps,assign,body,hy,hR⟩:=hY (n-1) pre e _ hJ1 (p _ aB);refine callsIn_of_wp Proofs.Tryz.func207 rfl trivial ?_ rfl;simp only[Proofs.Tryz.ntmps207,List.size_toArray,List.length_cons,List.length_nil,Nat.reduceAdd,Nat.reduceSub,As,Ah,List.push_toArray,List.append_toArray,List.nil_append,List.cons_append];unfold Nd.v at hy⊢
  gi_wp2
  refine⟨hdd _,hR.mono ?_⟩;rintro r W1 (⟨rfl,hJ2,hk1⟩|⟨rfl,hx⟩)
  .have hb1:=hk1.ks.block _ _ .mk hSW hbox;have c3:W1.cell? ⟨W.heap.size,3,none⟩=some (.slice e.x e.len e.cap):=bT hb1 rfl;have hlen:=F7 hp;have hat:=Jv ht.1 hp;have t:Kp h0 S W W1:=Kp.trans (Ab.of q (hS _ _ hJ).1).kp hk1
   gi_wp2
   gi_loopw [14] (λv wr=>∃(i:Nat) (ys:List Nd),v=.int .i64 i/\i<=xs.length/\opsOf ys=e.op::aR (xs.take i)/\J (pre++ys) wr/\Kp h0 S W wr) (λv wr=>match v with| .int _ i=>xs.length-i.toNat|_=>0)
   case atStart=>exact⟨0,[e],rfl,Nat.zero_le _,by simp[opsOf,aR],hJ2,t⟩
   case round=>
    obtain⟨i,ys,rfl,hi,ho,a,hkr⟩:=hrel;rcases cK i xs.length with c|c
    .obtain⟨x,g,zs,b,off,hx,ht2,hro,hpx,hcs⟩:=hat i c;obtain⟨q0,q1,q2,q3⟩:=hcs wr hkr.ks;have hlt:(i:Int)<xs.length:=ae;rw[hx]
     gi_wp2
     have hdr:DB wr.heap.size wr (wr.alloc (.cells x.cs 88)):=(Go.Dv.Below.refl _ wr).alloc (Nat.le_refl _) _;have hkw:Kp h0 S wr (wr.alloc (.cells x.cs 88)):=(Ab.of hdr (hS _ _ a).1).kp;have hsp:=tg xs i;have hsp1:=tg xs (i+1);have hl1:(aR zs).length<k:=by
      have:=Di List.length hsp1;rw[hro]at this;simp only[List.length_append,List.length_cons]at this;omega
     refine⟨trivial,hdd _,(F5 hA hS hY k (n-1) g zs x (pre++ys) _ hl1 ht2 (λo ho=>p o (by rw[hsp1,hro];simp only[List.mem_cons,List.mem_append]at ho⊢;rcases ho with h|h<;>simp[h])) (hpx.lx (hkr.trans hkw).ks) (hA _ _ _ a hdr)).mono ?_⟩
     rintro r W3 (⟨rfl,d,ho3,hJ3,hk3⟩|⟨rfl,d,u,ho3,hx3⟩)
     .gi_wp2
      go_roundw
      case rel=>exact⟨i+1,ys++d,by have:=ht.2;simp only[Value.int.injEq,true_and];(try go_bits);(try rw[j ae ae]);omega,ae,by simp only[opsOf,List.map_append]at ho ho3⊢;rw[ho,ho3,hro];simp,by rw[<-List.append_assoc];exact hJ3,(hkr.trans hkw).trans hk3⟩
      case measure=>simp;omega
     .gi_wp2
      refine bodyPost_ret (results_tmp rfl _ _ _) rfl ?_;refine .inr ⟨rfl,ys++d,u++aR (xs.drop (i+1)),?_,by rw[<-List.append_assoc];exact hx3⟩;simp only[opsOf,List.map_append]at ho ho3⊢;rw[ho,hsp1,hro,<-ho3];simp
    .have hie:i=xs.length:=ae;subst hie;have hlt:¬(xs.length:Int)<xs.length:=ae;rw[List.take_of_length_le (Nat.le_refl _)]at ho
     gi_wp2
     refine bodyPost_ret (results_tmp rfl _ _ _) rfl ?_;exact .inl ⟨rfl,ys,ho,a,hkr⟩
  .gi_wp2
   refine bodyPost_ret (results_tmp rfl _ _ _) rfl ?_;exact .inr ⟨rfl,[e],aR xs,rfl,hx⟩
end
def Ov(e:Nd)(n:Nat)(w:World):CallsIn Fence.wide n Proofs.Tryz.prog 168 #[e.v] w λr w'=>r=.returned (.func (.func 206) #[] #[.pointer (some ⟨w.heap.size,0,none⟩)])/\w'=w.alloc (.cells e.cs 88):=by
 refine callsIn_of_wp Proofs.Tryz.func168 rfl trivial ?_ rfl;simp only[Proofs.Tryz.ntmps168,List.size_toArray,List.length_cons,List.length_nil,Nat.reduceAdd,Nat.reduceSub,As,Ah,List.push_toArray,List.append_toArray,List.nil_append,List.cons_append];unfold Nd.v
 gi_wp2
 go_ret
 exact⟨rfl,rfl⟩
section
variable{l h0:Nat}{S:Nat->Prop}{Pr:Int->Prop}{J Jx:List Nd->World->Prop}
def Sn(hA:∀s W W',J s W->DB W.heap.size W W'->J s W')(hS:∀s W,J s W->h0<=W.heap.size/\∀b,S b->b<W.heap.size)
  (hY:∀m pre x W,J pre W->Pr x.op->YieldAt Fence.wide m Proofs.Tryz.prog l #[x.v] W λe W'=>
   (e=.returned (.bool true)/\J (pre++[x]) W'/\Kp h0 S W W')\/(e=.returned (.bool false)/\Jx (pre++[x]) W'))
  (n:Nat)(f:Bool)(xs:List (List PV))(e:Nd)(b:Nat)(W:World)(ht:dO xs=true/\xs.length<=4611686018427387904)(a:∀o∈e.op::aR xs,Pr o)(hp:bP W S (.slice f xs) (.slice e.x e.len e.cap))(hb:W.heap[b]?=some (.cells e.cs 88 (0,0)))(hJ:J [] W):
  CallsIn Fence.wide n Proofs.Tryz.prog 206 #[.func (.yield l) #[] #[],.pointer (some ⟨b,0,none⟩)] W λr W'=>
   (∃v,r=.returned v)/\((∃ys,opsOf ys=e.op::aR xs/\J ys W')\/∃ys zs,opsOf ys++zs=e.op::aR xs/\Jx ys W'):=by
 have hdd:∀k:Nat,(Fence.wide.depth.isSome=true->1<=k):=λk h=>by cases h
 have c0:W.cell? ⟨b,0,none⟩=some (.int .i64 e.op):=bT hb rfl;have c1:W.cell? ⟨b,1,none⟩=some (.int .i64 e.n):=bT hb rfl;have c2:W.cell? ⟨b,2,none⟩=some (.string e.s):=bT hb rfl;have c3:W.cell? ⟨b,3,none⟩=some (.slice e.x e.len e.cap):=bT hb rfl;have hv:=F5 hA hS hY ((aR xs).length+1) (n-1) f xs e [] W (Nat.lt_succ_self _) ht a hp hJ;refine callsIn_of_wp Proofs.Tryz.func206 rfl trivial ?_ rfl;simp only[Proofs.Tryz.ntmps206,List.size_toArray,List.length_cons,List.length_nil,Nat.reduceAdd,Nat.reduceSub,As,Ah,List.push_toArray,List.append_toArray,List.nil_append,List.cons_append];unfold Nd.v at hv
 gi_wp2
 refine⟨trivial,hdd _,hv.mono ?_⟩;rintro r W3 (⟨rfl,ys,ho,hJ3,_⟩|⟨rfl,ys,zs,ho,hx⟩)
 .gi_wp2
  go_end0
  exact⟨⟨_,rfl⟩,.inl ⟨ys,ho,by simpa using hJ3⟩⟩
 .gi_wp2
  go_end0
  exact⟨⟨_,rfl⟩,.inr ⟨ys,zs,ho,by simpa using hx⟩⟩
end
def VN(h0:Nat)(S:Nat->Prop)(I c:List Nd->World->Prop)(b:List Nd)(W:World):Exit->Act->World->Prop
 | .normal,_,a=>KeepsOthers W a/\Kp h0 S W a/\I b a
 | .ret,_,a=>KeepsOthers W a/\c b a
 |_,_,_=>False
def MW{g:Operand}{ps:Array Tmp}{assign body:Code}{Q:Exit->Act->World->Prop}{a:Act}{w:World}{h0 n gf:Nat}{lb:Array Value}
  (hg:a.eval g=.func (.func gf) #[] lb)(eg:∀args w,(callFunc gf args).run Proofs.Tryz.prog w=.ok (.enter gf args) w)(xa:ps.size=1)(hh:h0<=w.heap.size)
  (S:Nat->Prop)(Pr:Int->Prop)(I Z:List Nd->World->Prop)(Sp Sx:List Nd->Prop)
  (hI:∀s W i,I s W->Ab h0 W i->I s i)(x1:∀s W i,Z s W->Ab h0 W i->Z s i)(E:∀s W,I s W->h0<=W.heap.size/\∀b,S b->b<W.heap.size)
  (x2:∀(l:Nat) (J Jx:List Nd->World->Prop) (W:World),DB w.heap.size w W->(∀s W i,J s W->DB W.heap.size W i->J s i)->(∀s W,J s W->h0<=W.heap.size/\∀b,S b->b<W.heap.size)->
   (∀m pre x W,J pre W->Pr x.op->YieldAt Fence.wide m Proofs.Tryz.prog l #[x.v] W λe i=>(e=.returned (.bool true)/\J (pre++[x]) i/\Kp h0 S W i)\/(e=.returned (.bool false)/\Jx (pre++[x]) i))->J [] W->
   CallsIn Fence.wide (n-1) Proofs.Tryz.prog gf (#[.func (.yield l) #[] #[]]++lb) W λr i=>(∃v,r=.returned v)/\((∃j,Sp j/\J j i)\/∃j,Sx j/\Jx j i))
  (xb:I [] w)(C:Nd->Nat->Act)
  (o:∀(l m:Nat) (x:Nd) (W:World) (K:Act->World->Prop),K (C x W.heap.size) (W.alloc (.cells x.cs 88))->
   assign.wpIn (Fence.wide.inRound l) m Proofs.Tryz.prog (Exit.then K (λ_ _ _=>False)) {tmps:=(ps.zip #[x.v]).foldl (λt (p,v)=>t.setIfInBounds p v) a.tmps,defers:=[]} W)
  (F:∀(l m:Nat) (pre:List Nd) (x:Nd) (W:World) (b:Nat),I pre W->Pr x.op->W.heap[b]?=some (.cells x.cs 88 (0,0))->body.wpIn (Fence.wide.inRound l) m Proofs.Tryz.prog (VN h0 S I Z (pre++[x]) W) (C x b) W)
  (G:∀(j:List Nd) (W:World),Sp j->I j W->W.heap[w.heap.size]?=some (.deferred (some []))->Q .normal {a with defers:={target:=.collected w.heap.size,args:=#[]}::a.defers} W)
  (H:∀(j:List Nd) (W:World),Sx j->Z j W->W.heap[w.heap.size]?=some (.deferred (some []))->Code.ret.wpIn Fence.wide n Proofs.Tryz.prog Q {a with defers:={target:=.collected w.heap.size,args:=#[]}::a.defers} W):
  (Code.rangeFunc g ps assign body).wpIn Fence.wide n Proofs.Tryz.prog Q a w:=by
 refine wpIn_rangeFunc ?_;intro fn xc;obtain⟨d,f⟩:∃d:LoopState->Option Code->Loop,d=λst pe=>{state:=st,pending:=pe,fn,tmps:=a.tmps,params:=ps,assign,body,defers:=w.heap.size}:=⟨_,rfl⟩
 obtain⟨u,y⟩:∃u,(w.alloc (.deferred (some []))).alloc (.loop (d .ready none))=u:=⟨_,rfl⟩;have xd:u.heap[w.heap.size+1]?=some (.loop (d .ready none)):=by
  rw[<-y];have:=World.alloc_heap_new (w.alloc (.deferred (some []))) (.loop (d .ready none));rwa [World.size_alloc]at this
 have x3:DB w.heap.size w u:=by
  rw[<-y];exact((Go.Dv.Below.refl _ w).alloc (Nat.le_refl _) _).alloc aB _
 have xe:u.heap[w.heap.size]?=some (.deferred (some [])):=by
  rw[<-y,heap_alloc,an aB,heap_alloc,aq rfl]
 have xf:I [] u:=hI _ _ _ xb (Ab.of x3 hh);refine⟨w.heap.size+1,[{target:=.collected w.heap.size,args:=#[]}],u,{target:=.fn (.func gf) lb,args:=#[.func (.yield (w.heap.size+1)) #[] #[]]},u,gf,
  #[.func (.yield (w.heap.size+1)) #[] #[]]++lb,u,?_,?_,?_,?_,(λh=>by cases h),?_⟩
 .rw[<-y,f];exact run_enterLoop_outer _ _ _ _ _
 .simp only[resolve,hg];simp[go_sem]
 .intro f' xx;trivial
 .simp[invoke,go_sem,eg]
 .refine(x2 (w.heap.size+1)
   (λpre W=>I pre W/\W.heap[w.heap.size+1]?=some (.loop (d .ready none))/\W.heap[w.heap.size]?=some (.deferred (some [])))
   (λpre W=>Z pre W/\W.heap[w.heap.size+1]?=some (.loop (d .done (some .ret)))/\W.heap[w.heap.size]?=some (.deferred (some [])))
   u x3
   (λs A B D L=>⟨hI _ _ _ D.1 (Ab.of L (E _ _ D.1).1),by rw[L.block _ (aM D.2.1)];exact D.2.1,by rw[L.block _ (aM D.2.2)];exact D.2.2⟩)
   (λs W D=>E _ _ D.1)
   ?_ ⟨xf,xd,xe⟩).mono ?_
  .rintro m pre x W ⟨X,z,Y⟩ xg;have xh:=aM z;have x4:=aM Y;have hy:=run_yield (P:=Proofs.Tryz.prog) (args:=#[x.v]) z (by rw[f];exact xa.symm);rw[f]at hy;have M:DB W.heap.size W (W.alloc (.cells x.cs 88)):=(Go.Dv.Below.refl _ W).alloc (Nat.le_refl _) _;have N:(W.alloc (.cells x.cs 88)).heap[w.heap.size+1]?=some (.loop (d .ready none)):=by rw[M.block _ xh];exact z
   have xi:(W.alloc (.cells x.cs 88)).heap[w.heap.size]?=some (.deferred (some [])):=by rw[M.block _ x4];exact Y
   refine⟨fn,_,assign,body,hy,roundIn_of_wpIn xc (o _ _ x W _ ⟨_,run_beginRound N (by rw[f]),?_⟩)⟩;have O:Ab h0 W ((W.alloc (.cells x.cs 88)).putObj (w.heap.size+1) (.loop {d .ready none with state:=.busy})):=(Ab.of M (E _ _ X).1).trans (qs ae N);have x5:((W.alloc (.cells x.cs 88)).putObj (w.heap.size+1) (.loop {d .ready none with state:=.busy})).heap[w.heap.size+1]?=some (.loop {d .ready none with state:=.busy}):=World.putObj_heap_same (aM N);have x6:((W.alloc (.cells x.cs 88)).putObj (w.heap.size+1) (.loop {d .ready none with state:=.busy})).heap[w.heap.size]?=some (.deferred (some [])):=(World.putObj_heap_other ae).trans xi;have xj:((W.alloc (.cells x.cs 88)).putObj (w.heap.size+1) (.loop {d .ready none with state:=.busy})).heap[W.heap.size]?=some (.cells x.cs 88 (0,0)):=(World.putObj_heap_other ae).trans xP;refine wpIn_mono (F _ _ pre x _ _ (hI _ _ _ X O) xg xj) ?_;generalize xy:(W.alloc (.cells x.cs 88)).putObj (w.heap.size+1) (.loop {d .ready none with state:=.busy})=W2 at O x5 x6;have x7:∀(c:Option Code) (q:World),KeepsOthers W2 q->
     (Instr.endRound (w.heap.size+1) c).run Proofs.Tryz.prog q=.ok (.bool c.isNone) (q.putObj (w.heap.size+1) (.loop (d (if c.isNone then .ready else .done) c)))/\
     Ab h0 q (q.putObj (w.heap.size+1) (.loop (d (if c.isNone then .ready else .done) c)))/\
     (q.putObj (w.heap.size+1) (.loop (d (if c.isNone then .ready else .done) c))).heap[w.heap.size+1]?=some (.loop (d (if c.isNone then .ready else .done) c))/\
     (q.putObj (w.heap.size+1) (.loop (d (if c.isNone then .ready else .done) c))).heap[w.heap.size]?=some (.deferred (some [])):=λc q k=>by
    have R:=k.same _ _ x5 rfl;have:=run_endRound (P:=Proofs.Tryz.prog) c R;rw[f]at this⊢;exact⟨this,qs ae R,World.putObj_heap_same (aM R),(World.putObj_heap_other ae).trans (k.same _ _ x6 rfl)⟩
   rintro e a3 q hp;cases e with
   |normal=>
    obtain⟨k,xl,T⟩:=hp;obtain⟨hr,ha,U,V⟩:=x7 none q k;exact⟨_,_,hr,.inl ⟨rfl,⟨hI _ _ _ T ha,U,V⟩,(O.kp.trans xl).trans ha.kp⟩⟩
   |ret=>
    obtain⟨k,T⟩:=hp;obtain⟨hr,ha,U,V⟩:=x7 (some .ret) q k;exact⟨_,_,hr,.inr ⟨rfl,x1 _ _ _ T ha,U,V⟩⟩
   |exit id|goto t|panic ch|outgrown=>exact hp.elim
  .rintro e W2 ⟨⟨v,rfl⟩,(⟨j,hS,X,z,Y⟩|⟨j,xn,X,z,Y⟩)⟩
   .exact⟨none,_,by have:=run_endLoop (P:=Proofs.Tryz.prog) z (by rw[f];simp);rw[f]at this;exact this,G j _ hS (hI _ _ _ X (qs ae z)) ((World.putObj_heap_other ae).trans Y)⟩
   .exact⟨some .ret,_,by have:=run_endLoop (P:=Proofs.Tryz.prog) z (by rw[f];simp);rw[f]at this;exact this,H j _ xn (x1 _ _ _ X (qs ae z)) ((World.putObj_heap_other ae).trans Y)⟩
end
end Go.Dv.Tryz
