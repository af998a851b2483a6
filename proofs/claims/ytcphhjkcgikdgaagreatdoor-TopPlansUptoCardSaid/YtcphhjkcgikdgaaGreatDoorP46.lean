/- Lemmas for the law of this claim. -/
import Derived.Test.YtcphhjkcgikdgaaGreatDoorP16
import Derived.Test.YtcphhjkcgikdgaaGreatDoorProg
import Derived.Tactics
import Derived.Tactics2
import Derived.Defers
import Derived.Recover
import Derived.Laws.Pointers
import Derived.WalkKit
set_option linter.all false
set_option maxRecDepth 100000
namespace Go.Dv.Tryz
section
open Go Go.Dv Go.RowKit Go.Proofs
def K6(p q:Value)(w:World):
  CallsD Proofs.Tryz.prog 116 #[p,q] .returning w λe u' w'=>e=.returned (.tuple #[])/\u'=.returning/\w'=w:=by
 refine callsD_of_wpS Proofs.Tryz.func116 rfl λa cs hu=>?_
 apply wpS_seq;apply wpS_region;simp[wpOpsS,go_sem,recoverD,hu,Proofs.Tryz.ntmps116,Exit.thenS];refine wpS_of_wp ?_;simp only[List.size_toArray,List.length_cons,List.length_nil,Nat.reduceAdd,Nat.reduceSub,As,Ah,List.push_toArray,List.append_toArray,List.nil_append,List.cons_append,List.setIfInBounds_toArray,List.set_cons_succ,List.set_cons_zero]
 go_wp2
 cases a;simp_all [bodyPostS,results,Proofs.Tryz.results116]
def TU{P:Program}{a:Addr}{f g i j:Value}{w n:World}(h:(storeCells a [f,g,i,j]).run P w=.ok () n):
  ∃b c d,(store (a.add 0) f).run P w=.ok () b/\(store (a.add 1) g).run P b=.ok () c/\(store (a.add 2) i).run P c=.ok () d/\(store (a.add 3) j).run P d=.ok () n:=by
 simp only[storeCells,Sem.run_bind,Sem.run_pure]at h;cases o:(store (a.add 0) f).run P w with
 |halt e u=>rw[o]at h;cases h
 |ok x b=>
  rw[o]at h;simp only[Result.andThen_ok]at h;cases k:(store (a.add (0+1)) g).run P b with
  |halt e u=>rw[k]at h;cases h
  |ok x c=>
   rw[k]at h;simp only[Result.andThen_ok]at h;cases l:(store (a.add (0+1+1)) i).run P c with
   |halt e u=>rw[l]at h;cases h
   |ok x d=>
    rw[l]at h;simp only[Result.andThen_ok]at h;cases m:(store (a.add (0+1+1+1)) j).run P d with
    |halt e u=>rw[m]at h;cases h
    |ok x p=>
     rw[m]at h;simp only[Result.andThen_ok]at h;cases h;exact⟨b,c,d,rfl,k,l,m⟩
def Qb(b0 b1:Nat)(pay:Array Value)(y0 y1 y2 y3:Value)(hp:pay.size=4)(older:List PanicEntry)(w w1 u1 u2 u3 w2:World)(z:Value)
  (h1:(storeCells ⟨w.heap.size,0,none⟩ pay.toList).run Proofs.Tryz.prog (w.alloc (.cells #[.int .i64 0,.int .i64 0,.slice none 0 0,.string ⟨#[]⟩] 153))=.ok () w1)
  (c0:w1.cell? ⟨w.heap.size,0,none⟩=some y0)(c1:w1.cell? ⟨w.heap.size,1,none⟩=some y1)(c2:w1.cell? ⟨w.heap.size,2,none⟩=some y2)(c3:w1.cell? ⟨w.heap.size,3,none⟩=some y3)
  (s0:(store ⟨b0,0,none⟩ y0).run Proofs.Tryz.prog w1=.ok () u1)(s1:(store ⟨b0,1,none⟩ y1).run Proofs.Tryz.prog u1=.ok () u2)(s2:(store ⟨b0,2,none⟩ y2).run Proofs.Tryz.prog u2=.ok () u3)(s3:(store ⟨b0,3,none⟩ y3).run Proofs.Tryz.prog u3=.ok () w2)
  (f0:w2.cell? ⟨b1,0,none⟩=some z)(f1:w2.frozen? ⟨b1,0,none⟩=false):
  CallsD Proofs.Tryz.prog 116 #[.pointer (some ⟨b0,0,none⟩),.pointer (some ⟨b1,0,none⟩)] (.panicking ({v:=.iface 153 (.agg pay),recovered:=false}::older)) w λe u' w'=>
   e=.returned (.tuple #[])/\u'=.panicking ({v:=.iface 153 (.agg pay),recovered:=true}::older)/\w'=w2.setCell ⟨b1,0,none⟩ (.bool true):=by
 have hta:∀(pay:Array Value) (w:World),(Instr.typeAssert (.iface 153 (.agg pay)) 20 153 true).run Proofs.Tryz.prog w=.ok (.tuple #[.agg pay,.bool true]) w:=λ_ _=>jK
 refine callsD_of_wpS Proofs.Tryz.func116 rfl λa cs hu=>?_
 apply wpS_seq;apply wpS_region;simp[wpOpsS,go_sem,recoverD,hu,Proofs.Tryz.ntmps116,Exit.thenS];refine wpS_of_wp ?_;simp only[List.size_toArray,List.length_cons,List.length_nil,Nat.reduceAdd,Nat.reduceSub,As,Ah,List.push_toArray,List.append_toArray,List.nil_append,List.cons_append,List.setIfInBounds_toArray,List.set_cons_succ,List.set_cons_zero]
 go_wp2
 simp[bodyPostS,results,Proofs.Tryz.results116]
def zS:List PV:=[.int .i64 0,.int .i64 0,.slice true [],.str ⟨#[]⟩]
def eH(c:Nat):∀(H:Heap) (i:Nat) (b:ca),c<=i->az c (aH H i b)=az c H
 |[],_,_,_=>rfl
 |(k,v)::r,i,b,h=>by
   simp only[aH];by_cases e:k=i
   .subst e;simp only[beq_self_eq_true,bZ,az];rw[an ae,an ae]
   .have a:(k==i)=false:=by simpa using e
    simp only[a,Bool.false_eq_true,cy,az,eH c r i b h]
section
variable{B:Nat}{w0:World}{U0:Nat->Prop}{β:Place}{H:Heap}{nx:Nat}{w:World}
def O5(f:FuncId)(a:List DV)(H:Heap)(nx:Nat)(r:DV)(l:Heap)(b:Nat):Prop:=
 fx Proofs.Tryz.prog f/\∀(B:Nat) (w0:World) (U0:Nat->Prop) (β:Place) (w:World) (c:Array Value),Mem B w0 U0 β (rz zS H nx) (nx+2) w->c.size=a.length->
  (∀j d,a[j]?=some d->bj w (Own U0 β (rz zS H nx)) β (rz zS H nx) (nx+2) d (c.getD j undef))->Calls Proofs.Tryz.prog f c w λe k=>∃(t:Bool) (g:List PV) (h:Heap) (i:Nat),pU zS g t h nx=some (r,l,b)/\nx+2<=i/\
   ((t=false/\g=zS/\∃x v,e=.returned x/\Good B w0 U0 (rz zS H nx) (nx+2) β w v h i x k)\/(t=true/\∃x,e=.panicked [{v:=x,recovered:=false}]/\Good B w0 U0 (rz zS H nx) (nx+2) β w (.p (.iface 153 (.agg g))) h i x k))
def L1{c:aI}(y:bS Proofs.Tryz.prog c){C:DV}{f:FuncId}{a:List DV}{r:DV}{z:Heap}{b:Nat}(h:rG 153 zS c [C,.func f a] H nx=some (r,z,b)):O5 f a H nx r z b:=by
 unfold rG at h;simp only at h;cases d:c.de f a (rz zS H nx) (nx+2)with
 |some q=>
  obtain⟨v,g,D⟩:=q;rw[d]at h;obtain⟨i,j⟩:=y.de _ _ _ _ _ _ _ d;refine⟨i,λB w0 U0 β w k m l n=>(j B w0 U0 β w k m l n).mono ?_⟩;rintro e E ⟨x,rfl,o⟩;obtain⟨s,F,G,A,I⟩:=o;exact⟨false,zS,g,D,h,A.next,.inl ⟨rfl,rfl,x,v,rfl,s,F,G,A,I⟩⟩
 |none=>
  rw[d]at h;simp only at h;cases u:c.dies f a (rz zS H nx) (nx+2)with
  |none=>rw[u]at h;cases h
  |some q=>
   obtain⟨v,g⟩:=q;rw[u]at h;obtain⟨i,j⟩:=y.dies _ _ _ _ _ _ u;cases v<;>try(simp only at h;cases h;done)
   rename_i t p;cases p<;>try(simp only at h;cases h;done)
   rename_i J;simp only at h;split at h
   case isFalse=>cases h
   rename_i K;subst K;refine⟨i,λB w0 U0 β w k m l n=>(j B w0 U0 β w k m l n).mono ?_⟩;rintro e E ⟨x,rfl,o⟩;exact⟨true,J,g,nx+2,h,Nat.le_refl _,.inr ⟨rfl,x,rfl,o⟩⟩
def J2{b:Place}{f:World}{c:Heap}{h:Nat}(m:Mem B w0 U0 β H nx w)(q:Mem B w0 U0 b c h f)(k:dT w (Own U0 β H) f (Own U0 b c))(e:ku β H nx b c h)
  (r:nx<=h)(s:(az nx c).all (λx=>x.2.below nx)=true){cs:List PV}{t:Bool}{vs:Array Value}{x:Value}(u:vs.size=cs.length)(v:∀j y,cs[j]?=some y->(vs.getD j undef).oneCell'=true)
  (z:∀j y,cs[j]?=some y->bP f (Own U0 b c) y (vs.getD j undef)):Good B w0 U0 H nx β w (.tuple [.agg (cs.map .p),.p (.bool t)]) (az nx c) nx (.tuple #[.agg vs,.bool t]) f:=by
 have g:bH B w0 U0 ⟨0,w,β,H,nx,[],λ_=>undef⟩ b {env:=[],heap:=c,next:=h,marks:=[]} {tmps:=#[],defers:=[]} f:=
  ⟨q,λi d A=>by simp[ah]at A,rfl,⟨rfl,aB⟩,k,e,aB⟩
 have n:jc nx {env:=[],heap:=c,next:=h,marks:=[]}=some {env:=[],heap:=az nx c,next:=nx,marks:=[]}:=by
  unfold jc;simp[s,r]
 have o:=kV g (Nat.le_refl _) n;have C:=(mT nx c).keeps (U0:=U0) (β:=b) f;refine⟨b,o.mem,o.keeps,o.cn,.tuple _ _ rfl λj y a=>?_⟩
 match j,a with
 |0,a=>
  simp only[List.getElem?_cons_zero,aw]at a;subst a;refine .agg _ _ (by simpa using u) (λj y a=>?_) λj y a=>?_
  all_goals
   rw[List.getElem?_map]at a;cases l:cs[j]? with
   |none=>rw[l]at a;cases a
   |some p=>
    rw[l]at a;simp only[Option.map_some,aw]at a;subst a
    first|exact v j p l|exact .p _ _ ((z j p l).lx C)
 |1,a=>simp only[List.getElem?_cons_succ,List.getElem?_cons_zero,aw]at a;subst a;exact .p _ _ (.bool t)
 |j+2,a=>simp at a
end
def ec{a:Array Value}{T:TypeId}{w:World}{b:Nat}(h:w.heap[b]?=some (.cells a T (0,0)))(i:Nat)(c:i<a.size):w.cell? ⟨b,i,none⟩=some (a.getD i undef):=by
 rw[bT h (v:=a.getD i undef)];simp[dA,c]
def qp{B:Nat}{w0:World}{U0:Nat->Prop}{β:Place}{H:Heap}{nx:Nat}{w:World}(m:Mem B w0 U0 β H nx w){id b:Nat}{l:Bool}{f:List DV}(g:ah H id=some (.var l f))(p:bj w (Own U0 β H) β H nx (.ptr id 0) (.pointer (some ⟨b,0,none⟩))):
  ∃a T,w.heap[b]?=some (.cells a T (0,0))/\a.size=f.length/\∀j d,f[j]?=some d->(a.getD j undef).oneCell'=true/\bj w (Own U0 β H) β H nx d (a.getD j undef):=by
 cases p with
 |ptr _ _ _ hid t h u=>
  obtain⟨v,c,n,e⟩:=h _ _ g;cases e;obtain⟨x,y,a,T,i,_,o,q,r,s⟩:=m.h.aY id _ g;rw[n]at i;cases i;exact⟨a,T,o,q,λj d k=>⟨r j d k,s j d k⟩⟩
def sZ{P:Program}{t:TypeId}{a:Addr}{v:Value}{w b:World}(c:dC P t v.cells.size=true)(h:(Instr.storeAt t (.pointer (some a)) v).run P w=.ok () b):(storeCells a v.cells.toList).run P w=.ok () b:=by
 simpa only[Instr.storeAt,Instr.sureAddr,storeVar,Sem.run_bind,Sem.run_pure,Result.andThen_ok,run_sizeOf c,ne_eq,not_true_eq_false,cy]using h
def Ko:zA Proofs.Tryz.prog 86 (kZ 0 [153] zS):=by
 intro cf hc args H nx r H' nx' h;simp only[kZ]at h;have hsh:∃a0 f caps,args=[a0,.func f caps]:=by
  unfold rG at h;split at h
  .exact⟨_,_,_,rfl⟩
  .cases h
 obtain⟨a0,f,caps,rfl⟩:=hsh;have hco:=L1 hc h;refine⟨⟨_,Proofs.Tryz.func86,jK,rfl⟩,λB w0 U0 β w vs m hvs hrep=>?_⟩;have s:vs=#[vs.getD 0 undef,vs.getD 1 undef]:=by
  apply rL
  .simpa using hvs
  .intro i h1 h2;have hi:i=0\/i=1:=by simp at h2;omega
   rcases hi with rfl|rfl<;>simp[h1]
 have h1:=hrep 1 _ rfl;rw[s];generalize vs.getD 0 undef=v0;generalize vs.getD 1 undef=v1 at h1;cases h1 with
 |func _ _ C hl hr=>
 obtain⟨K,m1,k1,e1,d1⟩:=sW m (zS.map .p) #[.int .i64 0,.int .i64 0,.slice none 0 0,.string ⟨#[]⟩] 153 rfl (λj y hj=>by
  match j,hj with
  |0,hj=>cases hj;exact⟨.p _ _ (.int _ _),rfl⟩
  |1,hj=>cases hj;exact⟨.p _ _ (.int _ _),rfl⟩
  |2,hj=>cases hj;exact⟨.p _ _ (.none true none 0 (λ_=>rfl)),rfl⟩
  |3,hj=>cases hj;exact⟨.p _ _ (.str _),rfl⟩
  |j+4,hj=>simp[zS]at hj)
 obtain⟨D,m2,k2,e2,d2⟩:=sW m1 [.p (.bool false)] #[.bool false] 4 rfl (λj y hj=>by
  match j,hj with
  |0,hj=>cases hj;exact⟨.p _ _ (.bool _),rfl⟩
  |j+1,hj=>simp at hj)
 have hk:=k1.trans k2;have he:=e1.trans e2;have hC:=hco.2 B w0 U0 D _ C m2 hl λj d hj=>(hr j d hj).cn hk he
 have p1:=d1.cn k2 e2;rw[World.size_alloc]at d2;have hmf:∀(fn:Fn) (first cap:Array Value) (w:World),(Instr.makeFunc fn first cap).run Proofs.Tryz.prog w=.ok (.func fn first cap) w:=λ_ _ _ _=>rfl
 have hcall:∀(args:Array Value) (w:World),(callFunc f args).run Proofs.Tryz.prog w=.ok (.enter f args) w:=λargs w=>j3 hco.1 args
 go_enter_defers Proofs.Tryz.func86,Proofs.Tryz.ntmps86
 go_wp2
 refine hC.mono ?_;rintro e w3 ⟨t,cs,H3,n3,hend,hn3,hh⟩;unfold pU at hend;split at hend
 case h_2=>cases hend
 rename_i c1 c2 g1 g2;split at hend
 case isFalse=>cases hend
 rename_i hcond;obtain⟨q1,q2,q3,q4⟩:=hcond;simp only[aw,bQ]at hend;obtain⟨rfl,rfl,rfl⟩:=hend;rcases hh with⟨rfl,rfl,x,v,rfl,u,m3,k3,e3,d3⟩|⟨rfl,x,rfl,u,m3,k3,e3,d3⟩
 .have p1':=p1.cn k3 e3;have p2':=d2.cn k3 e3;obtain⟨w4,r4,E,m4,k4,e4,_⟩:=nh (P:=Proofs.Tryz.prog) m3 g1 p1' (l:=zS.map .p) (v:=.agg #[.int .i64 0,.int .i64 0,.slice none 0 0,.string ⟨#[]⟩]) (t:=153) (by simp[zS]at q1⊢;omega) rfl (λj y hj=>by
   match j,hj with
   |0,hj=>cases hj;exact⟨.p _ _ (.int _ _),rfl⟩
   |1,hj=>cases hj;exact⟨.p _ _ (.int _ _),rfl⟩
   |2,hj=>cases hj;exact⟨.p _ _ (.none true none 0 (λ_=>rfl)),rfl⟩
   |3,hj=>cases hj;exact⟨.p _ _ (.str _),rfl⟩
   |j+4,hj=>simp[zS]at hj) jK
  have hput:putAt c1 0 (zS.map DV.p)=zS.map .p:=by unfold putAt;rw[List.take_zero,List.nil_append,List.drop_eq_nil_of_le (by simp;omega),List.append_nil]
  have a:putAt c2 0 [DV.p (.bool false)]=[.p (.bool false)]:=by unfold putAt;rw[List.take_zero,List.nil_append,List.drop_eq_nil_of_le (by simp;omega),List.append_nil]
  rw[hput]at m4 k4 e4;have g2':ah (aH H3 nx (.var false (zS.map .p))) (nx+1)=some (.var false c2):=by rw[bn,an ae];exact g2
  have g1':ah (aH H3 nx (.var false (zS.map .p))) nx=some (.var false (zS.map .p)):=by rw[bn,aq rfl,g1];rfl
  obtain⟨w5,r5,o,m5,k5,e5,_⟩:=nh (P:=Proofs.Tryz.prog) m4 g2' (p2'.cn k4 e4) (l:=[.p (.bool false)]) (v:=.bool false) (t:=4) (by simp;omega) rfl (λj y hj=>by
   match j,hj with
   |0,hj=>cases hj;exact⟨.p _ _ (.bool _),rfl⟩
   |j+1,hj=>simp at hj) jK
  rw[a]at m5 k5 e5;obtain⟨arr,T,hb3,hs3,_⟩:=qp m3 g1 p1';obtain⟨A,T2,hb4,hs4,_⟩:=qp m3 g2 p2';have hz:arr.size=4:=by rw[hs3,q1];rfl
  have hz2:A.size=1:=by rw[hs4,q2]
  have a0:=ec hb3 0 ae;have a1:=ec hb3 1 ae;have a2:=ec hb3 2 ae;have a3:=ec hb3 3 ae;have b0:=ec hb4 0 ae;have f0:∀i,w3.frozen? ⟨w.heap.size,i,none⟩=false:=λi=>fJ hb3
  have f1:∀i,w3.frozen? ⟨w.heap.size+1,i,none⟩=false:=λi=>fJ hb4
  simp[go_sem,a0,a1,a2,a3,f0]at r4;simp[go_sem,b0,f1]at r5
  go_wp2
  refine leaves_cons (f:=116) (args:=#[.pointer (some ⟨w.heap.size,0,none⟩),.pointer (some ⟨w.heap.size+1,0,none⟩)]) aB (by simp[go_sem]) ?_;refine(K6 _ _ _).mono ?_;rintro e u' w'' ⟨rfl,rfl,rfl⟩;have g5:ah (aH (aH H3 nx (.var false (zS.map .p))) (nx+1) (.var false [.p (.bool false)])) nx=some (.var false (zS.map .p)):=by rw[bn,an ae];exact g1'
  have g6:ah (aH (aH H3 nx (.var false (zS.map .p))) (nx+1) (.var false [.p (.bool false)])) (nx+1)=some (.var false [.p (.bool false)]):=by rw[bn,aq rfl,g2'];rfl
  obtain⟨ar,T5,hb5,hs5,b⟩:=qp m5 g5 ((p1'.cn k4 e4).cn k5 e5);obtain⟨br,T6,hb6,hs6,F⟩:=qp m5 g6 ((p2'.cn k4 e4).cn k5 e5);have L:ar.size=4:=by rw[hs5];rfl
  have M:br.size=1:=by rw[hs6];rfl
  have x0:=ec hb5 0 ae;have x1:=ec hb5 1 ae;have x2:=ec hb5 2 ae;have x3:=ec hb5 3 ae;have x4:=ec hb6 0 ae;have hbt:br.getD 0 undef=.bool false:=by
   have:=(F 0 _ rfl).2;generalize br.getD 0 undef=z at this;cases this with|p _ _ hp=>cases hp;rfl
  rw[hbt]at x4;have hfin:=J2 (t:=false) (cs:=zS) (vs:=#[ar.getD 0 undef,ar.getD 1 undef,ar.getD 2 undef,ar.getD 3 undef]) (x:=undef) m m5 (((hk.trans k3).trans k4).trans k5) (((he.trans e3).trans e4).trans e5) ae (by rw[eH _ _ _ _ ae,eH _ _ _ _ (Nat.le_refl _)];exact q4) rfl
   (λj y hj=>by
    have h:=λj (hj:j<4)=>(b j (.p (zS.getD j .undef)) (by match j,hj with|0,_=>rfl|1,_=>rfl|2,_=>rfl|3,_=>rfl)).1
    match j,hj with
    |0,_=>exact h 0 ae
    |1,_=>exact h 1 ae
    |2,_=>exact h 2 ae
    |3,_=>exact h 3 ae
    |j+4,hj=>simp[zS]at hj)
   (λj y hj=>by
    have h:∀j y,zS[j]?=some y->bP w'' (Own U0 o _) y (ar.getD j undef):=λj y hj=>by
     have:=(b j (.p y) (by rw[List.getElem?_map,hj];rfl)).2
     cases this;assumption
    match j,hj with
    |0,hj=>exact h 0 y hj
    |1,hj=>exact h 1 y hj
    |2,hj=>exact h 2 y hj
    |3,hj=>exact h 3 y hj
    |j+4,hj=>simp[zS]at hj)
  rw[eH _ _ _ _ ae,eH _ _ _ _ (Nat.le_refl _)]at hfin;simp only[dA]at hfin;simp[Leaves,settle,results,Proofs.Tryz.results86,go_sem,x0,x1,x2,x3,x4];exact hfin
 .have p1':=p1.cn k3 e3;have p2':=d2.cn k3 e3;have hx:∃pv,x=.iface 153 (.agg pv)/\pv.size=cs.length/\(∀j y,cs[j]?=some y->(pv.getD j undef).oneCell'=true)/\∀j y,cs[j]?=some y->bP w3 (Own U0 u H3) y (pv.getD j undef):=by
   cases d3 with|p _ _ hp=>
   cases hp with|iface _ _ v hv=>
   cases hv with|agg _ pv hl h1 hr=>exact⟨pv,rfl,hl,h1,hr⟩
  obtain⟨pv,rfl,hpl,hp1,hpr⟩:=hx;have hcs:cs.length=4:=by rw[q3];rfl
  have q:pv.size=4:=ae;obtain⟨E,m4,k4,e4,d4⟩:=sW m3 (zS.map .p) #[.int .i64 0,.int .i64 0,.slice none 0 0,.string ⟨#[]⟩] 153 rfl (λj y hj=>by
   match j,hj with
   |0,hj=>cases hj;exact⟨.p _ _ (.int _ _),rfl⟩
   |1,hj=>cases hj;exact⟨.p _ _ (.int _ _),rfl⟩
   |2,hj=>cases hj;exact⟨.p _ _ (.none true none 0 (λ_=>rfl)),rfl⟩
   |3,hj=>cases hj;exact⟨.p _ _ (.str _),rfl⟩
   |j+4,hj=>simp[zS]at hj)
  have lay:∀{w':World} {g:Place} {H':Heap} {n':Nat} {vs:Array Value},vs.size=4->(∀j y,cs[j]?=some y->(vs.getD j undef).oneCell'=true)->(∀j y,cs[j]?=some y->bP w' (Own U0 g H') y (vs.getD j undef))->
    ∀j y,(cs.map DV.p)[j]?=some y->bj w' (Own U0 g H') g H' n' y (((Value.agg vs).cells).getD j undef)/\(((Value.agg vs).cells).getD j undef).oneCell'=true:=by
   intro w' g H' n' vs hs h1 h2 j y hj;rw[List.getElem?_map]at hj;cases hc:cs[j]? with
   |none=>rw[hc]at hj;cases hj
   |some p=>rw[hc]at hj;cases hj;exact⟨.p _ _ (h2 j p hc),h1 j p hc⟩
  have hput:∀c:List DV,c.length=4->putAt c 0 (cs.map DV.p)=cs.map .p:=λc h=>by unfold putAt;rw[List.take_zero,List.nil_append,List.drop_eq_nil_of_le (by simp;omega),List.append_nil]
  have a:putAt c2 0 [DV.p (.bool true)]=[.p (.bool true)]:=by unfold putAt;rw[List.take_zero,List.nil_append,List.drop_eq_nil_of_le (by simp;omega),List.append_nil]
  have z1:c1.length=4:=by rw[q1];rfl
  have gA:ah ((n3,ca.var false (zS.map .p))::H3) n3=some (.var false (zS.map .p)):=by rw[aP,aq rfl]
  obtain⟨w5,r5,o,m5,k5,e5,_⟩:=nh (P:=Proofs.Tryz.prog) m4 gA d4 (l:=cs.map .p) (v:=.agg pv) (t:=153) (by simp[zS,hcs]) (by show pv.size=_;simp;omega) (lay q hp1 λj y hj=>(hpr j y hj).lx k4) (by rw[List.length_map,hcs];kernel_rfl)
  rw[hput _ rfl]at m5 k5 e5;have s5:=sZ (by show dC _ _ pv.size=true;rw[q];kernel_rfl) r5
  generalize hH5:aH ((n3,ca.var false (zS.map DV.p))::H3) n3 (.var false (cs.map .p))=k at m5 k5 e5;have N:ah k n3=some (.var false (cs.map .p)):=by rw[<-hH5,bn,aq rfl,gA];rfl
  have gC:ah k nx=some (.var false c1):=by rw[<-hH5,bn,an ae,aP,an ae];exact g1
  have gD:ah k (nx+1)=some (.var false c2):=by rw[<-hH5,bn,an ae,aP,an ae];exact g2
  have n:az nx k=az nx H3:=by rw[<-hH5,eH _ _ _ _ ae,az,an ae]
  obtain⟨ar,T5,hb5,hs5,b⟩:=qp m5 N (d4.cn k5 e5);rw[List.length_map,hcs]at hs5;have y0:=ec hb5 0 ae;have y1:=ec hb5 1 ae;have y2:=ec hb5 2 ae;have y3:=ec hb5 3 ae;have gr:∀j y,cs[j]?=some y->(ar.getD j undef).oneCell'=true/\bP w5 (Own U0 o k) y (ar.getD j undef):=λj y hj=>by
   have:=b j (.p y) (by rw[List.getElem?_map,hj];rfl)
   obtain⟨h1,h2⟩:=this;cases h2;exact⟨h1,by assumption⟩
  have ex:∀j y,cs[j]?=some y->(#[ar.getD 0 undef,ar.getD 1 undef,ar.getD 2 undef,ar.getD 3 undef]:Array Value).getD j undef=ar.getD j undef:=λj y hj=>by
   have:j<4:=by have:=aL hj;omega
   match j,this with
   |0,_=>rfl
   |1,_=>rfl
   |2,_=>rfl
   |3,_=>rfl
  have P1:=(p1'.cn k4 e4).cn k5 e5;have P2:=(p2'.cn k4 e4).cn k5 e5;obtain⟨w6,r6,O,m6,k6,e6,_⟩:=nh (P:=Proofs.Tryz.prog) m5 gC P1 (l:=cs.map .p) (v:=.agg #[ar.getD 0 undef,ar.getD 1 undef,ar.getD 2 undef,ar.getD 3 undef]) (t:=153) (by simp;omega) (by show 4=_;simp;omega)
   (lay rfl (λj y hj=>by rw[ex j y hj];exact(gr j y hj).1) λj y hj=>by rw[ex j y hj];exact(gr j y hj).2) (by rw[List.length_map,hcs];kernel_rfl)
  rw[hput _ z1]at m6 k6 e6;obtain⟨u1,u2,u3,t0,t1,t2,t3⟩:=TU (sZ (v:=.agg #[ar.getD 0 undef,ar.getD 1 undef,ar.getD 2 undef,ar.getD 3 undef]) jK r6);simp only[hM,Nat.zero_add]at t0 t1 t2 t3;have gE:ah (aH k nx (.var false (cs.map .p))) nx=some (.var false (cs.map .p)):=by rw[bn,aq rfl,gC];rfl
  have gF:ah (aH k nx (.var false (cs.map .p))) (nx+1)=some (.var false c2):=by rw[bn,an ae];exact gD
  obtain⟨w7,r7,G,m7,k7,e7,_⟩:=nh (P:=Proofs.Tryz.prog) m6 gF (P2.cn k6 e6) (l:=[.p (.bool true)]) (v:=.bool true) (t:=4) (by simp;omega) rfl (λj y hj=>by
   match j,hj with
   |0,hj=>cases hj;exact⟨.p _ _ (.bool _),rfl⟩
   |j+1,hj=>simp at hj) jK
  rw[a]at m7 k7 e7;obtain⟨br,T6,hb6,hs6,_⟩:=qp m6 gF (P2.cn k6 e6);have b0:=ec hb6 0 ae;have f1:∀i,w6.frozen? ⟨w.heap.size+1,i,none⟩=false:=λi=>fJ hb6
  simp[go_sem,b0,f1]at r7;refine leaves_cons (f:=116) (args:=#[.pointer (some ⟨w.heap.size,0,none⟩),.pointer (some ⟨w.heap.size+1,0,none⟩)]) aB (by simp[go_sem]) ?_;refine(Qb w.heap.size (w.heap.size+1) pv _ _ _ _ q [] w3 w5 u1 u2 u3 w6 _ s5 y0 y1 y2 y3 t0 t1 t2 t3 b0 (f1 0)).mono ?_;rintro e u' w'' ⟨rfl,rfl,rfl⟩;rw[r7];have Q:ah (aH (aH k nx (.var false (cs.map .p))) (nx+1) (.var false [.p (.bool true)])) nx=some (.var false (cs.map .p)):=by rw[bn,an ae];exact gE
  have R:ah (aH (aH k nx (.var false (cs.map .p))) (nx+1) (.var false [.p (.bool true)])) (nx+1)=some (.var false [.p (.bool true)]):=by rw[bn,aq rfl,gF];rfl
  obtain⟨cr,T7,hb7,hs7,I⟩:=qp m7 Q ((P1.cn k6 e6).cn k7 e7);obtain⟨dr,T8,hb8,hs8,J⟩:=qp m7 R ((P2.cn k6 e6).cn k7 e7);rw[List.length_map,hcs]at hs7;have x0:=ec hb7 0 ae;have x1:=ec hb7 1 ae;have x2:=ec hb7 2 ae;have x3:=ec hb7 3 ae;have x4:=ec hb8 0 (by rw[hs8];simp);have hbt:dr.getD 0 undef=.bool true:=by
   have:=(J 0 _ rfl).2;generalize dr.getD 0 undef=z at this;cases this with|p _ _ hp=>cases hp;rfl
  rw[hbt]at x4;have cx:∀j y,cs[j]?=some y->(#[cr.getD 0 undef,cr.getD 1 undef,cr.getD 2 undef,cr.getD 3 undef]:Array Value).getD j undef=cr.getD j undef:=λj y hj=>by
   have:j<4:=by have:=aL hj;omega
   match j,this with
   |0,_=>rfl
   |1,_=>rfl
   |2,_=>rfl
   |3,_=>rfl
  have cg:∀j y,cs[j]?=some y->(cr.getD j undef).oneCell'=true/\bP w7 (Own U0 G _) y (cr.getD j undef):=λj y hj=>by
   have:=I j (.p y) (by rw[List.getElem?_map,hj];rfl)
   obtain⟨h1,h2⟩:=this;cases h2;exact⟨h1,by assumption⟩
  have hfin:=J2 (t:=true) (cs:=cs) (vs:=#[cr.getD 0 undef,cr.getD 1 undef,cr.getD 2 undef,cr.getD 3 undef]) (x:=undef) m m7 (((((hk.trans k3).trans k4).trans k5).trans k6).trans k7) (((((he.trans e3).trans e4).trans e5).trans e6).trans e7) ae
   (by rw[eH _ _ _ _ ae,eH _ _ _ _ (Nat.le_refl _),n];exact q4) (by show 4=_;omega)
   (λj y hj=>by rw[cx j y hj];exact(cg j y hj).1) (λj y hj=>by rw[cx j y hj];exact(cg j y hj).2)
  rw[eH _ _ _ _ ae,eH _ _ _ _ (Nat.le_refl _),n]at hfin;simp only[dA]at hfin;simp[Leaves,settle,results,Proofs.Tryz.results86,go_sem,x0,x1,x2,x3,x4];exact hfin
end
end Go.Dv.Tryz
