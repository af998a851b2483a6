/- Lemmas for the law of this claim. -/
import Derived.Test.YtcphhjkcgikdgaaGreatDoorP44
set_option linter.all false
set_option maxRecDepth 100000
set_option maxHeartbeats 4000000
namespace Go.Dv.Tryz
section
open Go Go.Dv Go.RowKit Go.Proofs Go.Shelf
attribute [local go_sem] Oper.semAt_some
def vX{q:Int->Option Bool}:∀(a l:List Int) (k:Nat),(∀o∈a,q o=some false)->ji q k (a++l)=ji q (k+a.length) l
 |[],l,k,_=>rfl
 |o::a,l,k,h=>by
  simp only[List.cons_append,ji,h o aB,List.length_cons];rw[vX a l (k+1) λx b=>h x (by simp[b])];congr 1;omega
section
variable{cf:aI}(hc:bS Proofs.Tryz.prog cf)
include hc
theorem Vt{o:Int}{b:Bool}(h:iO cf 169 o=some b)(l n:Nat)(W:World)(f:lK W.heap.size W):
  CallsIn (Fence.wide.inRound l) n Proofs.Tryz.prog 169 #[.int .i64 o] W λe d=>e=.returned (.bool b)/\DB W.heap.size W d:=by
 unfold iO at h;split at h
 .rename_i k c;cases h;obtain⟨_,g⟩:=hc.pure _ _ _ c;refine CallsIn.inRound l (callsIn_wide.2 ((g (λ_=>False) W #[.int .i64 o] (λ_ h=>h.elim) f rfl λj p a=>?_).mono ?_))
  .match j,a with
   |0,a=>simp at a;subst a;exact .int _ _
   |j+1,a=>simp at a
  .rintro e d ⟨v,rfl,i,c⟩;cases i;exact⟨rfl,c⟩
 .cases h
end
def vu{W:World}{b:Nat}{u:Value}{T:TypeId}(h:W.heap[b]?=some (.cells #[u] T (0,0)))(v:Value):
  (W.setCell ⟨b,0,none⟩ v).heap[b]?=some (.cells #[v] T (0,0))/\(∀k,k≠b->(W.setCell ⟨b,0,none⟩ v).heap[k]?=W.heap[k]?)/\(∀a,a<=b->DB a W (W.setCell ⟨b,0,none⟩ v))/\KeepsOthers W (W.setCell ⟨b,0,none⟩ v):=by
 refine⟨?_,λk c=>?_,λa d=>?_,KeepsOthers.setCell _ _ _⟩
 .rw[lP h,dI,aq ⟨rfl,aM h⟩];rfl
 .rw[lP h,dI,an (λe=>c e.1.symm)]
 .rw[lP h];exact nX d h
def qE{W:World}{b:Nat}{u:Value}{T:TypeId}(h:W.heap[b]?=some (.cells #[u] T (0,0))):W.cell? ⟨b,0,none⟩=some u/\W.frozen? ⟨b,0,none⟩=false:=⟨bT h rfl,fJ h⟩
def UF{b c d:Nat}{x y z:Value}{T1 T2 e:TypeId}{W:World}(f:W.heap[b]?=some (.cells #[x] T1 (0,0)))(g:W.heap[c]?=some (.cells #[y] T2 (0,0)))(h:W.heap[d]?=some (.cells #[z] e (0,0)))(a:Array Value)
  (i:a[2]?.getD undef=.pointer (some ⟨b,0,none⟩))(j:a[3]?.getD undef=.pointer (some ⟨c,0,none⟩))(k:a[4]?.getD undef=.pointer (some ⟨d,0,none⟩)):
  (results Proofs.Tryz.f133 a).run Proofs.Tryz.prog W=.ok (.tuple #[x,y,z]) W:=by
 have l:=(qE f).1;have m:=(qE g).1;have n:=(qE h).1;simp[results,Proofs.Tryz.results133,i,j,k,go_sem,l,m,n]
def oK{n:Nat}{m:Func}{a:Array Value}{R:Ending->World->Prop}:∀(g:List Nat) (W:World),g.Nodup->(∀d∈g,W.heap[d]?=some (.deferred (some [])))->
  (∀i,(∀j,(∀d∈g,j<=d)->DB j W i)->(∀(b:Nat) (c:Array Value) (T:TypeId) (l:Nat×Nat),W.heap[b]?=some (Obj.cells c T l)->i.heap[b]?=some (Obj.cells c T l))->LeavesIn Fence.wide n Proofs.Tryz.prog m a R [] .returning i)->
  LeavesInM Fence.wide n Proofs.Tryz.prog m a R (g.map λd=>{target:=.collected d,args:=#[]}) .returning W
 |[],W,_,_,h=>h W (λ_ _=>Go.Dv.Below.refl _ _) λ_ _ _ _ e=>e
 |d::g,W,q,o,h=>by
  obtain⟨r,s⟩:=List.nodup_cons.1 q;have f:=o d aB;refine⟨aB,.inl ⟨d,_,rfl,run_takeDeferred f,oK g _ s (λx k=>?_) λi t u=>h i (λj p=>?_) λb c T l e=>?_⟩⟩
  .rw[World.putObj_heap_other (λe:x=d=>r (by rw[<-e];exact k))];exact o x (by simp[k])
  .exact(D0 (p d aB) f (Ek _)).trans (t j λx k=>p x (by simp[k]))
  .refine u _ _ _ _ ?_;rw[World.putObj_heap_other]
   .exact e
   .rintro rfl;rw[f]at e;cases e
def Lq(a b:Nat):wrap64 (wrap64 ((a:Int)+(b:Int))+1)=wrap64 ((a+(b+1):Nat):Int):=by
 unfold wrap64;omega
structure FI(w w7:World)(S:Nat->Prop)(h5:Nat)(Ds:List Nat)(q:Int->Option Bool)(k0:Nat)(pre:List Nd)(W:World):Prop where
 db:DB w.heap.size w W
 ks:dT w7 S W S
 sz:w7.heap.size<=W.heap.size
 r2:W.heap[w.heap.size+1]?=some (.cells #[.int .i64 0] 3 (0,0))
 r3:W.heap[w.heap.size+1+1]?=some (.cells #[.int .i64 0] 3 (0,0))
 r4:W.heap[w.heap.size+1+1+1]?=some (.cells #[.bool false] 4 (0,0))
 c5:W.heap[h5]?=some (.cells #[.int .i64 (wrap64 ((k0+pre.length:Nat):Int))] 3 (0,0))
 no:∀o∈opsOf pre,q o=some false
 Hk:∀d∈Ds,W.heap[d]?=some (.deferred (some []))
structure FX(w:World)(Ds:List Nat)(q:Int->Option Bool)(k0:Nat)(ys:List Nd)(W:World):Prop where
 db:DB w.heap.size w W
 Hk:∀d∈Ds,W.heap[d]?=some (.deferred (some []))
 at_:∃(pre:List Nd) (x:Nd),ys=pre++[x]/\(∀o∈opsOf pre,q o=some false)/\q x.op=some true/\
  W.heap[w.heap.size+1]?=some (.cells #[.int .i64 x.op] 3 (0,0))/\W.heap[w.heap.size+1+1]?=some (.cells #[.int .i64 (wrap64 ((k0+pre.length:Nat):Int))] 3 (0,0))/\W.heap[w.heap.size+1+1+1]?=some (.cells #[.bool true] 4 (0,0))
def FI.ab{w l:World}{S:Nat->Prop}{m:Nat}{n:List Nat}{q:Int->Option Bool}{k0:Nat}{pre:List Nd}{W i:World}(h:FI w l S m n q k0 pre W)(a:Ab w.heap.size W i):FI w l S m n q k0 pre i:=
 have k:=a.kp (S:=S);have f:∀{b:Nat} {c:Array Value} {T:TypeId},W.heap[b]?=some (Obj.cells c T (0,0))->i.heap[b]?=some (Obj.cells c T (0,0)):=λe=>a.same _ _ (λr j=>by cases j) e
 ⟨h.db.trans a.db,⟨λb o hc g e=>k.ks.block b o hc g (h.ks.block b o hc g e),λ_ _ _ g _=>g⟩,dL h.sz a.db.size,f h.r2,f h.r3,f h.r4,f h.c5,h.no,λd p=>a.same _ _ (λr j=>by cases j) (h.Hk d p)⟩
def FX.ab{w:World}{j:List Nat}{q:Int->Option Bool}{k0:Nat}{k:List Nd}{W f:World}(h:FX w j q k0 k W)(a:Ab w.heap.size W f):FX w j q k0 k f:=by
 have g:∀{b:Nat} {c:Array Value} {T:TypeId},W.heap[b]?=some (Obj.cells c T (0,0))->f.heap[b]?=some (Obj.cells c T (0,0)):=λe=>a.same _ _ (λr i=>by cases i) e
 obtain⟨pre,x,e,l,m,n,o,p⟩:=h.at_;exact⟨h.db.trans a.db,λd s=>a.same _ _ (λr i=>by cases i) (h.Hk d s),pre,x,e,l,m,g n,g o,g p⟩
def Za{w g:World}{S:Nat->Prop}{i:Nat}{e:List Nat}{q:Int->Option Bool}{k0:Nat}{pre:List Nd}{W:World}(h:FI w g S i e q k0 pre W){x:Nd}(j:q x.op=some true):
  KeepsOthers W (((W.setCell ⟨w.heap.size+1,0,none⟩ (.int .i64 x.op)).setCell ⟨w.heap.size+1+1,0,none⟩ (.int .i64 (wrap64 ((k0:Int)+(pre.length:Int))))).setCell ⟨w.heap.size+1+1+1,0,none⟩ (.bool true)).drew/\
  FX w e q k0 (pre++[x]) (((W.setCell ⟨w.heap.size+1,0,none⟩ (.int .i64 x.op)).setCell ⟨w.heap.size+1+1,0,none⟩ (.int .i64 (wrap64 ((k0:Int)+(pre.length:Int))))).setCell ⟨w.heap.size+1+1+1,0,none⟩ (.bool true)).drew:=by
 have a:=vu h.r2 (.int .i64 x.op);have b:=vu ((a.2.1 _ ae).trans h.r3) (.int .i64 (wrap64 ((k0:Int)+(pre.length:Int))));have c:=vu ((b.2.1 _ ae).trans ((a.2.1 _ ae).trans h.r4)) (.bool true);have f:=((a.2.2.2.trans b.2.2.2).trans c.2.2.2).trans (KeepsOthers.drew _);refine⟨f,(((h.db.trans (a.2.2.1 _ ae)).trans (b.2.2.1 _ ae)).trans (c.2.2.1 _ ae)).drew,λd k=>f.same _ _ (h.Hk d k) rfl,pre,x,rfl,h.no,j,?_,?_,c.1⟩
 .exact((c.2.1 _ ae).trans (b.2.1 _ ae)).trans a.1
 .refine((c.2.1 _ ae).trans b.1).trans ?_;rw[vD]
def aaw(n:Nat)(a:Act):Nat:=match a.tmps.getD 15 undef with
 | .int _ i=>n-i.toNat
 |_=>0
def frm(a b c:Value)(h m:Nat)(v:Value)(n i:Nat)(o e f g j k l:Value)(p:List Nat):Act:=
 {tmps:=#[.agg #[a,b,c],.pointer (some ⟨h,0,none⟩),.pointer (some ⟨h+1,0,none⟩),.pointer (some ⟨h+1+1,0,none⟩),.pointer (some ⟨h+1+1+1,0,none⟩),.pointer (some ⟨m,0,none⟩),undef,o,undef,.agg #[a,b,c],.int .i64 0,.bool false,.agg #[a,b,c],v,.int .i64 n,.int .i64 i,e,f,g,j,k,undef,undef,undef,undef,undef,undef,undef,undef,undef,l],
  defers:=p.map λd=>{target:=.collected d,args:=#[]}}
section
variable{cf:aI}(hc:bS Proofs.Tryz.prog cf)
include hc
theorem Pw{ps:List PV}{e:Int}(hv:cf.pure 163 [.agg ps]=some (.int .i64 e))(h3:ps.length=3){n:Int}{k:Nat}{b:Bool}
  (h0:e≠0->n=0/\k=0/\b=false)(h1:e=0->∃f xs,cf.pure 167 [.agg ps]=some (.slice f xs)/\(dO xs=true/\xs.length<=4611686018427387904)/\(aR xs).length<=4611686018427387904/\ji (iO cf 169) 0 (aR xs)=some (n,k,b)/\∀o∈aR xs,∃b,iO cf 169 o=some b)
  {U:Nat->Prop}{w:World}{v:Value}(hU:∀b,U b->b<w.heap.size)(hT:lK w.heap.size w)(hp:bP w U (.agg ps) v)(m:Nat):
  CallsIn Fence.wide m Proofs.Tryz.prog 133 #[v] w λr w'=>r=.returned (.tuple #[.int .i64 n,.int .i64 k,.bool b])/\DB w.heap.size w w':=by
 have hdd:∀k:Nat,(Fence.wide.depth.isSome=true->1<=k):=λk h=>by cases h
 obtain⟨c0,c1,c2,rfl,hps⟩:∃c0 c1 c2,v=.agg #[c0,c1,c2]/\∀W U',dT w U W U'->bP W U' (.agg ps) (.agg #[c0,c1,c2]):=by
  have hp':=hp;cases hp with
  |agg cs vs hl h1 hr=>
   have:vs.size=3:=ae;obtain⟨a0,a1,a2,rfl⟩:∃a0 a1 a2,vs=#[a0,a1,a2]:=⟨vs[0],vs[1],vs[2],by
    apply rL
    .simpa using this
    .intro i h1 h2;have:i=0\/i=1\/i=2:=by simp at h2;omega
     rcases this with rfl|rfl|rfl<;>rfl⟩
   exact⟨a0,a1,a2,rfl,λW U' hk=>hp'.lx hk⟩
 refine callsIn_of_wp_marks Proofs.Tryz.func133 rfl trivial ?_ rfl;simp only[Proofs.Tryz.ntmps133,List.size_toArray,List.length_cons,List.length_nil,Nat.reduceAdd,Nat.reduceSub,As,Ah,List.push_toArray,List.append_toArray,List.nil_append,List.cons_append]
 gi_wp2
 obtain⟨W4,u⟩:∃W4,((((w.alloc (Obj.cells #[c0,c1,c2] 48)).alloc (Obj.cells #[Value.int IntKind.i64 0] 3)).alloc (Obj.cells #[Value.int IntKind.i64 0] 3)).alloc (Obj.cells #[Value.bool false] 4))=W4:=⟨_,rfl⟩;have hs4:W4.heap.size=w.heap.size+1+1+1+1:=by rw[<-u];simp
 have hd4:DB w.heap.size w W4:=by
  rw[<-u];exact((((Go.Dv.Below.refl _ w).alloc (Nat.le_refl _) _).alloc aB _).alloc (by simp;omega) _).alloc (by simp;omega) _
 have r1:W4.heap[w.heap.size]?=some (.cells #[c0,c1,c2] 48 (0,0)):=by rw[<-u];simp only[heap_alloc,World.size_alloc];repeat (first|rw[aq trivial]|rw[an ae])
 have r2:W4.heap[w.heap.size+1]?=some (.cells #[.int .i64 0] 3 (0,0)):=by rw[<-u];simp only[heap_alloc,World.size_alloc];repeat (first|rw[aq trivial]|rw[an ae])
 have r3:W4.heap[w.heap.size+1+1]?=some (.cells #[.int .i64 0] 3 (0,0)):=by rw[<-u];simp only[heap_alloc,World.size_alloc];repeat (first|rw[aq trivial]|rw[an ae])
 have r4:W4.heap[w.heap.size+1+1+1]?=some (.cells #[.bool false] 4 (0,0)):=by rw[<-u];simp only[heap_alloc,World.size_alloc];repeat (first|rw[aq trivial]|rw[an ae])
 rw[u];clear u;obtain⟨S4,hS4⟩:∃S4:Nat->Prop,S4=λb=>U b\/b=w.heap.size+1\/b=w.heap.size+1+1\/b=w.heap.size+1+1+1:=⟨_,rfl⟩
 have hk4:dT w U W4 S4:=⟨λb o _ _ h=>by rw[hd4.block _ (aM h)];exact h,λb o _ hu h=>by
  have:=aM h;rw[hS4];rintro(h|h|h|h)
  .exact hu h
  all_goals omega⟩
 obtain⟨_,g1⟩:=hc.pure _ _ _ hv;have g2:=g1 S4 W4 #[.agg #[c0,c1,c2]] (λb h=>by
  rw[hS4]at h;rcases h with h|h|h|h
  .have:=hU _ h;omega
  all_goals omega) ((hT.below (Nat.le_refl _) hd4.toBelow).mono ae) rfl (λj p hj=>by
   match j,hj with
   |0,hj=>simp at hj;subst hj;exact hps _ _ hk4
   |j+1,hj=>simp at hj)
 refine⟨trivial,hdd _,callsIn_wide.2 (g2.mono ?_)⟩;rintro _ W5 ⟨_,rfl,⟨⟩,hd5⟩;have q1:W5.heap[w.heap.size]?=some (.cells #[c0,c1,c2] 48 (0,0)):=by rw[hd5.block _ ae];exact r1
 have q2:W5.heap[w.heap.size+1]?=some (.cells #[.int .i64 0] 3 (0,0)):=by rw[hd5.block _ ae];exact r2
 have q3:W5.heap[w.heap.size+1+1]?=some (.cells #[.int .i64 0] 3 (0,0)):=by rw[hd5.block _ ae];exact r3
 have q4:W5.heap[w.heap.size+1+1+1]?=some (.cells #[.bool false] 4 (0,0)):=by rw[hd5.block _ ae];exact r4
 have u2:=bT q2 (o:=0) (v:=.int .i64 0) rfl;have u3:=bT q3 (o:=0) (v:=.int .i64 0) rfl;have u4:=bT q4 (o:=0) (v:=.bool false) rfl;have f2:∀i,W5.frozen? ⟨w.heap.size+1,i,none⟩=false:=λi=>fJ q2
 have f3:∀i,W5.frozen? ⟨w.heap.size+1+1,i,none⟩=false:=λi=>fJ q3
 have f4:∀i,W5.frozen? ⟨w.heap.size+1+1+1,i,none⟩=false:=λi=>fJ q4
 by_cases he:e=0
 .subst he;obtain⟨f,xs,hx,ht,hlen,hsc,hall⟩:=h1 rfl;have p0:(W5.alloc (.cells #[.int .i64 0] 3)).cell? ⟨w.heap.size,0,none⟩=some c0:=bT (by rw[heap_alloc,an (by have:=aM q1;omega)];exact q1) rfl;have p1:(W5.alloc (.cells #[.int .i64 0] 3)).cell? ⟨w.heap.size,1,none⟩=some c1:=bT (by rw[heap_alloc,an (by have:=aM q1;omega)];exact q1) rfl;have p2:(W5.alloc (.cells #[.int .i64 0] 3)).cell? ⟨w.heap.size,2,none⟩=some c2:=bT (by rw[heap_alloc,an (by have:=aM q1;omega)];exact q1) rfl
  gi_wp2
  obtain⟨W6,z⟩:∃W6,W5.alloc (Obj.cells #[Value.int IntKind.i64 0] 3)=W6:=⟨_,rfl⟩;have hs6:W6.heap.size=W5.heap.size+1:=by rw[<-z];simp
  have hd6:DB W5.heap.size W5 W6:=by rw[<-z];exact(Go.Dv.Below.refl _ _).alloc (Nat.le_refl _) _
  have c5:W6.heap[W5.heap.size]?=some (.cells #[.int .i64 0] 3 (0,0)):=by rw[<-z,heap_alloc,aq rfl]
  have M:=hd5.size;have A:DB w.heap.size w W6:=(hd4.trans (hd5.mono ae)).trans (hd6.mono ae);rw[z];rw[z]at p0 p1 p2;obtain⟨S7,hS7⟩:∃S7:Nat->Prop,S7=λb=>U b\/b=w.heap.size+1\/b=w.heap.size+1+1\/b=w.heap.size+1+1+1\/b=W5.heap.size:=⟨_,rfl⟩
  have C:∀b,S7 b->b<W6.heap.size:=λb h=>by
   rw[hS7]at h;rcases h with h|h|h|h|h
   .have:=hU _ h;omega
   all_goals omega
  have hk6:dT w U W6 S7:=⟨λb o _ _ h=>by rw[A.block _ (aM h)];exact h,λb o _ hu h=>by
   have:=aM h;rw[hS7];rintro(h|h|h|h|h)
   .exact hu h
   all_goals omega⟩
  obtain⟨_,g3⟩:=hc.pure _ _ _ hx;have g4:=g3 S7 W6 #[.agg #[c0,c1,c2]] C ((hT.below (Nat.le_refl _) A.toBelow).mono ae) rfl (λj p hj=>by
   match j,hj with
   |0,hj=>simp at hj;subst hj;exact hps _ _ hk6
   |j+1,hj=>simp at hj)
  refine⟨trivial,hdd _,callsIn_wide.2 (g4.mono ?_)⟩;rintro _ W7 ⟨v7,rfl,E,hd7⟩;obtain⟨a7,n7,z7,rfl⟩:∃a n c,v7=.slice a n c:=by cases E<;>exact⟨_,_,_,rfl⟩
  obtain rfl:=F7 E;have N:=hd7.size;have k7:∀{b:Nat} {o:Obj},W5.heap[b]?=some o->W7.heap[b]?=some o:=λ{b o} h=>by
   have:=aM h;rw[hd7.block _ ae,hd6.block _ ae];exact h
  gi_wp2
  refine wpIn_loop (λa W=>∃(i:Nat) (Ds:List Nat) (t7 t16 t17 F t19 t20 t30:Value),a=frm c0 c1 c2 w.heap.size W5.heap.size (.slice a7 xs.length z7) xs.length i t7 t16 t17 F t19 t20 t30 Ds/\i<=xs.length/\Ds.Nodup/\(∀d∈Ds,w.heap.size<=d/\d<W.heap.size)/\
    FI w W7 S7 W5.heap.size Ds (iO cf 169) (aR (xs.take i)).length [] W/\∀o∈aR (xs.take i),iO cf 169 o=some false)
   (λa _=>aaw xs.length a) ?start ?round
  case start=>
   exact⟨0,[],undef,undef,undef,undef,undef,undef,undef,rfl,Nat.zero_le _,List.nodup_nil,aB,⟨(A.trans (hd7.mono ae)),⟨λ_ _ _ _ h=>h,λ_ _ _ h _=>h⟩,Nat.le_refl _,k7 q2,k7 q3,k7 q4,by rw[hd7.block _ ae,c5];simp[aR,wrap64],by simp[opsOf],aB⟩,by simp[aR]⟩
  case round=>
   rintro a W ⟨i,Ds,t7,t16,t17,F,t19,t20,t30,rfl,hi,hnd,hDs,hF,hno⟩;unfold frm;rcases cK i xs.length with c|c
   .obtain⟨x,g,zs,b',off,hx7,ht2,hro,hpx,hcs⟩:=Jv ht.1 E i c;subst hx7;have hlt:(i:Int)<xs.length:=ae;obtain⟨y0,y1,y2,y3⟩:=hcs W hF.ks
    gi_wp2
    refine⟨trivial,hdd _,(Ov x (m-1) _).mono ?_⟩;rintro _ _ ⟨rfl,rfl⟩
    gi_wp2
    obtain⟨W2,hW2⟩:∃W2,(W.alloc (Obj.cells x.cs 88)).alloc (Obj.cells x.cs 88)=W2:=⟨_,rfl⟩;have hd2:DB W.heap.size W W2:=by rw[<-hW2];exact((Go.Dv.Below.refl _ _).alloc (Nat.le_refl _) _).alloc aB _
    have hs2:W2.heap.size=W.heap.size+1+1:=by rw[<-hW2];simp
    have hbox:W2.heap[W.heap.size+1]?=some (.cells x.cs 88 (0,0)):=by rw[<-hW2,heap_alloc,aq aB]
    have hz0:=hF.sz;have hab:Ab w.heap.size W W2:=Ab.of hd2 ae;have hF2:=hF.ab hab;have hrs:=tg xs (i+1);rw[hW2];refine MW (h0:=w.heap.size) (gf:=206) (lb:=#[.pointer (some ⟨W.heap.size+1,0,none⟩)]) (by simp[Act.eval]) (enters_of Proofs.Tryz.func206 jK rfl) rfl ae S7 (λo=>∃b,iO cf 169 o=some b)
     (FI w W7 S7 W5.heap.size Ds (iO cf 169) (aR (xs.take i)).length) (FX w Ds (iO cf 169) (aR (xs.take i)).length) (λys=>opsOf ys=x.op::aR zs) (λys=>∃r,opsOf ys++r=x.op::aR zs)
     (λ_ _ _ h a=>h.ab a) (λ_ _ _ h a=>h.ab a) (λs W' h=>⟨by have:=h.sz;omega,λb' hb'=>by have:=C b' hb';have:=h.sz;omega⟩)
     (λl J Jx W3 G hA hS hY hJ=>(Sn hA hS hY (m-1) g zs x _ W3 ht2 (λo ho=>hall o (by rw[hrs,hro];simp only[List.mem_append,List.mem_cons]at ho⊢;rcases ho with h|h<;>simp[h])) (hpx.lx ⟨λb o hc hu h=>by rw[G.block _ (aM (hF2.ks.block b o hc hu h))];exact hF2.ks.block b o hc hu h,λ_ _ _ hu _=>hu⟩) (by rw[G.block _ ae];exact hbox) hJ).mono λr W' ⟨hv,h⟩=>⟨hv,h.elim .inl λ⟨ys,r,e,hx⟩=>.inr ⟨ys,⟨r,e⟩,hx⟩⟩)
     hF2 (λx' bx=>{tmps:=#[.agg #[c0,c1,c2],.pointer (some ⟨w.heap.size,0,none⟩),.pointer (some ⟨w.heap.size+1,0,none⟩),.pointer (some ⟨w.heap.size+1+1,0,none⟩),.pointer (some ⟨w.heap.size+1+1+1,0,none⟩),.pointer (some ⟨W5.heap.size,0,none⟩),undef,.pointer (some ⟨W.heap.size,0,none⟩),.pointer (some ⟨bx,0,none⟩),.agg #[c0,c1,c2],.int .i64 0,.bool false,.agg #[c0,c1,c2],.slice (some ⟨b',off,none⟩) xs.length z7,.int .i64 xs.length,.int .i64 i,.bool true,.pointer (some ⟨b',off+i*4,none⟩),x.v,x.v,.func (.func 206) #[] #[.pointer (some ⟨W.heap.size+1,0,none⟩)],x'.v,undef,undef,undef,undef,undef,undef,undef,undef,t30],defers:=[]}) ?assign ?body ?done ?stop
    case assign=>
     intro l m' x' W' K hK;unfold Nd.v
     gi_wp2
     exact hK
    case body=>
     rintro l m' pre x' W' b2 hF3 ⟨bb,hbb⟩ hbx;have hz3:=hF3.sz;have L:=hF3.db.size;have d0:W'.cell? ⟨b2,0,none⟩=some (.int .i64 x'.op):=bT hbx rfl;have hask:=Vt hc hbb l (m'-1) W' ((hT.below (Nat.le_refl _) hF3.db.toBelow).mono ae)
     gi_wp2
     refine⟨trivial,hdd _,hask.mono ?_⟩;rintro _ W'' ⟨rfl,y⟩;have D:Ab w.heap.size W' W'':=Ab.of y ae;have hko:KeepsOthers W' W'':=⟨y.size,λk o h _=>by rw[y.block _ (aM h)];exact h⟩;have t:=hF3.ab D;have H:W''.heap[b2]?=some (.cells x'.cs 88 (0,0)):=by rw[y.block _ (aM hbx)];exact hbx
     have d4:W''.cell? ⟨b2,0,none⟩=some (.int .i64 x'.op):=bT H rfl;obtain⟨v5,z5⟩:=qE t.c5;obtain⟨v2,z2⟩:=qE t.r2;obtain⟨v3,z3⟩:=qE t.r3;obtain⟨v4,z4⟩:=qE t.r4;cases bb with
     |false=>
      gi_wp2
      have s:=vu t.c5 (.int .i64 (wrap64 (wrap64 (((aR (xs.take i)).length:Int)+(pre.length:Int))+1)));have hne:∀b,¬S7 b->b≠W5.heap.size:=λb h e=>h (by rw[hS7,e];simp)
      have hks:dT W'' S7 (W''.setCell ⟨W5.heap.size,0,none⟩ (.int .i64 (wrap64 (wrap64 (((aR (xs.take i)).length:Int)+(pre.length:Int))+1)))) S7:=⟨λb o _ hu h=>by rw[s.2.1 _ (hne b hu)];exact h,λ_ _ _ hu _=>hu⟩;have B:=s.2.2.1 w.heap.size ae;refine⟨hko.trans s.2.2.2,D.kp.trans ⟨B,hks⟩,⟨t.db.trans B,⟨λb o hc hu h=>hks.block b o hc hu (t.ks.block b o hc hu h),λ_ _ _ hu _=>hu⟩,dL t.sz B.size,by rw[s.2.1 _ ae];exact t.r2,by rw[s.2.1 _ ae];exact t.r3,by rw[s.2.1 _ ae];exact t.r4,?_,?_,λd hd=>s.2.2.2.same _ _ (t.Hk d hd) rfl⟩⟩
      .rw[s.1];simp only[List.length_append,List.length_singleton,aw,Obj.cells.injEq,and_true];rw[Lq]
      .intro o ho;simp only[opsOf,List.map_append,List.map_cons,List.map_nil,List.mem_append,List.mem_singleton]at ho;rcases ho with h|rfl
       .exact hF3.no o h
       .exact hbb
     |true=>
      have hmx:Proofs.Tryz.prog.follows .mixedOrders=true:=jK
      gi_wp2
      gi_region_with_o (fail)
      all_goals
       gi_wp2
       have hfx:=Za t hbb;exact⟨hko.trans hfx.1,hfx.2⟩
    case done=>
     intro ys W3 hys hF3 hD;have I:ys.length=(aR zs).length+1:=by have:=Di List.length hys;simpa[opsOf]using this
     have hlk:(aR (xs.take (i+1))).length=(aR (xs.take i)).length+ys.length:=by rw[hro,List.length_append,List.length_cons,I]
     have hz3:=hF3.sz
     gi_wp2
     refine⟨⟨i+1,W2.heap.size::Ds,_,_,_,_,_,_,_,rfl,ae,List.nodup_cons.2 ⟨λh=>by have:=(hDs _ h).2;omega,hnd⟩,λd hd=>?_,⟨hF3.db,hF3.ks,hF3.sz,hF3.r2,hF3.r3,hF3.r4,by rw[hlk];exact hF3.c5,by simp[opsOf],λd hd=>?_⟩,λo ho=>?_⟩,by show xs.length-((i:Int)+1).toNat<xs.length-(i:Int).toNat;omega⟩
     .rcases List.mem_cons.1 hd with rfl|hd
      .exact⟨ae,aM hD⟩
      .have:=hDs _ hd;exact⟨this.1,by have:=aM (hF3.Hk d hd);omega⟩
     .rcases List.mem_cons.1 hd with rfl|hd
      .exact hD
      .exact hF3.Hk d hd
     .rw[hro,List.mem_append]at ho;rcases ho with h|h
      .exact hno o h
      .exact hF3.no o (by rw[hys];exact h)
    case stop=>
     rintro ys W3 ⟨r,hr⟩ hX hD;obtain⟨pre,x',rfl,hn1,hq1,e2,e3,e4⟩:=hX.at_;have hops:aR xs=(aR (xs.take i)++opsOf pre)++(x'.op::(r++aR (xs.drop (i+1)))):=by
      rw[hrs,hro,<-hr];simp[opsOf]
     have hsc2:=hsc;rw[hops,vX _ _ _ (λo ho=>by
      rcases List.mem_append.1 ho with h|h
      .exact hno o h
      .exact hn1 o h)]at hsc2
     simp only[ji,hq1,aw,bQ,Nat.zero_add]at hsc2;obtain⟨g1',g2',g3'⟩:=hsc2;have hle:(aR (xs.take i)).length+pre.length<=4611686018427387904:=by
      have:=Di List.length hops;simp only[List.length_append,opsOf,List.length_map]at this;omega
     have hw:wrap64 (((aR (xs.take i)).length+pre.length:Nat):Int)=(k:Int):=by
      rw[<-g2',List.length_append,opsOf,List.length_map];unfold wrap64;omega
     rw[hw]at e3
     gi_wp2
     refine oK (W2.heap.size::Ds) _ (List.nodup_cons.2 ⟨λh=>by have:=(hDs _ h).2;omega,hnd⟩) (λd hd=>?_) λW' hb hcs'=>⟨_,UF (hcs' _ _ _ _ e2) (hcs' _ _ _ _ e3) (hcs' _ _ _ _ e4) _ rfl rfl rfl,by rw[g1',g3'],hX.db.trans (hb _ λd hd=>?_)⟩
     .rcases List.mem_cons.1 hd with rfl|hd
      .exact hD
      .exact hX.Hk d hd
     .rcases List.mem_cons.1 hd with rfl|hd
      .omega
      .exact(hDs _ hd).1
   .obtain rfl:i=xs.length:=ae;have hlt:¬(xs.length:Int)<xs.length:=ae;rw[List.take_of_length_le (Nat.le_refl _)]at hno;have hsc2:=hsc;have:=vX (q:=iO cf 169) (aR xs) [] 0 hno;rw[List.append_nil]at this;rw[this]at hsc2;simp only[ji,aw,bQ]at hsc2;obtain⟨rfl,rfl,rfl⟩:=hsc2;obtain⟨v2,z2⟩:=qE hF.r2;obtain⟨v3,z3⟩:=qE hF.r3;obtain⟨v4,z4⟩:=qE hF.r4
    gi_wp2
    have s1:=vu hF.r2 (.int .i64 0);have s2:=vu ((s1.2.1 _ ae).trans hF.r3) (.int .i64 0);have s3:=vu ((s2.2.1 _ ae).trans ((s1.2.1 _ ae).trans hF.r4)) (.bool false);refine oK Ds _ hnd (λd hd=>s3.2.2.2.same _ _ (s2.2.2.2.same _ _ (s1.2.2.2.same _ _ (hF.Hk d hd) rfl) rfl) rfl) λW' hb hcs'=>⟨_,UF (hcs' _ _ _ _ (by rw[s3.2.1 _ ae,s2.2.1 _ ae];exact s1.1)) (hcs' _ _ _ _ (by rw[s3.2.1 _ ae];exact s2.1)) (hcs' _ _ _ _ s3.1) _ rfl rfl rfl,rfl,?_⟩
    exact(((hF.db.trans (s1.2.2.1 _ ae)).trans (s2.2.2.1 _ ae)).trans (s3.2.2.1 _ ae)).trans (hb _ λd hd=>(hDs d hd).1)
 .have he':(e==0)=false:=by simpa using he
  obtain⟨rfl,rfl,rfl⟩:=h0 he
  gi_wp2
  have s1:=vu q2 (.int .i64 0);have s2:=vu ((s1.2.1 _ ae).trans q3) (.int .i64 0);have s3:=vu ((s2.2.1 _ ae).trans ((s1.2.1 _ ae).trans q4)) (.bool false);refine oK [] _ List.nodup_nil aB λW' hb hcs=>⟨_,UF (hcs _ _ _ _ (by rw[s3.2.1 _ ae,s2.2.1 _ ae];exact s1.1)) (hcs _ _ _ _ (by rw[s3.2.1 _ ae];exact s2.1)) (hcs _ _ _ _ s3.1) _ rfl rfl rfl,rfl,?_⟩
  exact(((((hd4.trans (hd5.mono ae)).trans (s1.2.2.1 _ ae)).trans (s2.2.2.1 _ ae)).trans (s3.2.2.1 _ ae)).trans (hb _ aB))
end
end
end Go.Dv.Tryz
