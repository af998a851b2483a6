/- Lemmas for the law of this claim. -/
import Derived.Test.YtcphhjkcgikdgaaGreatDoorP45
import Derived.Test.YtcphhjkcgikdgaaGreatDoorP46
import Derived.Test.YtcphhjkcgikdgaaGreatDoorP24
set_option linter.all false
set_option maxRecDepth 100000
set_option maxHeartbeats 4000000
namespace Go.Dv.Tryz
section
open Go Go.Dv Go.RowKit Go.Proofs
def D5{B:Nat}{R:World}{t:Nat->Prop}{g:Place}{H:Heap}{u:Nat}{w:World}{z:Array Value}{l p q:DV}{A:aI}(T:bS Proofs.Tryz.prog A)(m:Mem B R t g H u w)(J:z.size=[DV.agg [l,p,q]].length)
  (C:∀j d,[DV.agg [l,p,q]][j]?=some d->bj w (Own t g H) g H u d (z.getD j undef)){D:List PV}(K:cl (bE H dep) [l,p,q]=some D){e:Int}(U:A.pure 163 [.agg D]=some (.int .i64 e)){n:Int}{k:Nat}{b:Bool}
  (V:e≠0->n=0/\k=0/\b=false)(L:e=0->∃f s,A.pure 167 [.agg D]=some (.slice f s)/\(dO s=true/\s.length<=4611686018427387904)/\(aR s).length<=4611686018427387904/\ji (iO A 169) 0 (aR s)=some (n,k,b)/\∀o∈aR s,∃b,iO A 169 o=some b):
  Calls Proofs.Tryz.prog 133 z w λr S=>∃x,r=.returned x/\Good B R t H u g w (.tuple [.p (.int .i64 n),.p (.int .i64 k),.p (.bool b)]) (cY H ([l,p,q].flatMap (eR H dep))) u x S:=by
 obtain⟨v,rfl⟩:∃v,z=#[v]:=⟨z.getD 0 undef,by
  apply rL
  .simpa using J
  .intro i L W;have M:i=0:=by simp at W;omega
   subst M;simp[L]⟩
 have N:=C 0 _ rfl;generalize E:[l,p,q].flatMap (eR H dep)=h;have G:=lr h H;have F:=(eS K).1;have X:bP w (Own t g (cY H h)) (.agg D) v:=by
  simp only[List.getD_eq_getElem?_getD,dA]at N
  change bj w (Own t g H) g H u (.agg [l,p,q]) v at N
  cases N with
  |agg cs O hl Y P=>
   refine .agg D O ae (λj y Q=>?_) λj y Q=>?_
   .obtain⟨a,I,_⟩:=iY K Q;exact Y j a I
   .obtain⟨a,I,Z⟩:=iY K Q;exact ql m h dep a y _ Z (λi M=>by rw[<-E,List.mem_flatMap];exact⟨a,List.mem_of_getElem? I,M⟩) (P j a I)
 refine(callsIn_wide (n:=0)).1 ((Pw T U (by simpa using F) V L (NI m G) (m.tab.mono m.bsize) X 0).mono ?_);rintro _ S ⟨rfl,hb⟩;obtain⟨m1,k1⟩:=m.call hb;refine⟨_,rfl,g,m1.less G,k1.trans (G.keeps _),G.cn (Nat.le_refl _),.tuple _ _ rfl λj y c=>?_⟩
 match j,c with
 |0,c=>cases c;exact .p _ _ (.int _ _)
 |1,c=>cases c;exact .p _ _ (.int _ _)
 |2,c=>cases c;exact .p _ _ (.bool _)
 |j+3,c=>simp at c
def EE:zA Proofs.Tryz.prog 133 (kZ 1 [163,167,169] []):=by
 intro A p args H C r D s h;simp only[kZ]at h;unfold qQ at h;split at h
 .rename_i t u v;cases d:cl (bE H dep) [t,u,v]with
  |none=>rw[d]at h;cases h
  |some E=>
   rw[d]at h;simp only at h;split at h
   .rename_i e q;refine⟨⟨_,Proofs.Tryz.func133,jK,rfl⟩,λB F G I w J m c a=>?_⟩;by_cases g:e=0
    .rw[aq g]at h;split at h
     .rename_i f x y;split at h
      .rename_i n k b i;cases h;unfold vY at i;split at i
       .rename_i j;obtain⟨k1,k2,k3⟩:=j;simp only[rP,aO,cp]at k1;exact D5 p m c a d q (λl=>absurd g l) λ_=>⟨f,x,y,k1,k2,i,λo z=>by
         have:=List.all_eq_true.1 k3 o z;exact py.1 this⟩
       .cases i
      .cases h
     .cases h
    .rw[an g]at h;cases h;exact D5 (n:=0) (k:=0) (b:=false) p m c a d q (λ_=>⟨rfl,rfl,rfl⟩) λh=>absurd h g
   .cases h
 .cases h
def natives:∀f∈Jy,∀b,tab f=some b->sy Proofs.Tryz.prog f b:=by
 intro f c b a;simp only[Jy,List.mem_cons,List.not_mem_nil,or_false]at c;rcases c with rfl|rfl
 .have h:tab 86=some Qn:=rfl;rw[h]at a;cases a;exact .inr ⟨_,_,_,rfl,Ko⟩
 .have h:tab 133=some IC:=rfl;rw[h]at a;cases a;exact .inr ⟨_,_,_,rfl,EE⟩
end
end Go.Dv.Tryz
