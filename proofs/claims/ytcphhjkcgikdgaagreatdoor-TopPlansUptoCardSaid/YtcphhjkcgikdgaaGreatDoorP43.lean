/- Lemmas for the law of this claim. -/
import Derived.Test.YtcphhjkcgikdgaaGreatDoorP37
import Derived.Test.YtcphhjkcgikdgaaGreatDoorP38
import Derived.Test.YtcphhjkcgikdgaaGreatDoorP42
set_option linter.all false
set_option maxRecDepth 100000
set_option maxHeartbeats 8000000
namespace Go.Dv.Tryz
section
open Go Go.Dv
def Bi(l:List Ef)(i:Nat)(h:i<l.length):(iP l)[i]?=some [.int .i64 l[i].st,.int .i64 l[i].code,.slice l[i].fo (bF l[i].out),.slice l[i].fr (aA l[i].reads),.slice l[i].fp (aA l[i].cm),.slice l[i].fw (bm l[i].writes),.str l[i].Of,.int .i64 l[i].steps]:=Lt l i h
def A9(t:Bool)(w:List Pr)(rd:List ByteArray)(j:Nat):Bool:=t||(w.take j).any λp=>hasB rd p.key
def vz(a:List Ef)(rd:List ByteArray)(k:Nat):Bool:=(a.take k).any λe=>e.writes.any λp=>hasB rd p.key
def Nr(t:Bool){w:List Pr}(rd:List ByteArray){j:Nat}(h:j<w.length):A9 t w rd (j+1)=(A9 t w rd j||hasB rd w[j].key):=by
 unfold A9;rw[List.take_succ_eq_append_getElem h,List.any_append,<-Bool.or_assoc];simp
def Mc{a:List Ef}(rd:List ByteArray){k:Nat}(h:k<a.length):vz a rd (k+1)=A9 (vz a rd k) a[k].writes rd a[k].writes.length:=by
 unfold vz A9;rw[List.take_succ_eq_append_getElem h,List.any_append,List.take_length];simp
def O8{a:List Ef}{rd:List ByteArray}{i k:Nat}(d:k<i)(e:k<a.length){w:Pr}(b:w∈a[k].writes)(c:w.key∈rd):vz a rd i=true:=by
 unfold vz;refine List.any_eq_true.2 ⟨a[k],List.mem_iff_getElem.2 ⟨k,by rw[List.length_take];omega,by rw[List.getElem_take]⟩,List.any_eq_true.2 ⟨w,b,gp.2 c⟩⟩
def MK{a:List Pc}{s:List Pr}{l:List Tx}{es:List Ef}{X:PV}(G:a.length<=1048576)(H:∀p∈a,jM p)(I:∀p∈a,CW p=p)(hs:ka s)(hl:l.length<=1048576)(y:es.length=l.length)(z:∀e∈es,Ff e)
  (A:∀(i:Nat) (h:i<l.length) (h':i<es.length),es[i].st=3->(a.find? (sV l[i])).isSome=true/\vz es es[i].reads i=true){T:List Tx}
  (V:PS tb 11 [.slice false (fY a),.slice false (bm s),.slice false (fK l)] (.slice false (fK T)))
  (W:PS tb 12 [.slice false (fY a),.slice false (bm s),.slice false (fK T)] (.tuple [X,.slice false (iP es)])):
  PS tb 4 [.slice false (fY a),.slice false (bm s),.slice false (fK l)] (.bool true):=by
 have Y:=IS;have b:(iP es).length=l.length:=by rw[qx,y]
 refine bM (af:=a4) rfl rfl ?_;unfold a4;dsimp only[List.map,aQ,aj];repeat'(first|exact V|exact W|(simp(disch:=omega) only[go_sem,seval,reduceCtorEq,b,eJ,bne,beq_self_eq_true])|with_reducible exact Ev.mk|apply gb|((first|apply b5|apply bO)<;>intro o Z<;>(simp(disch:=omega) only[go_sem,seval,reduceCtorEq,b,eJ,bne,beq_self_eq_true,o])<;>clear o))
 refine bU (λj t=>∃(i q:Nat),i+j=l.length/\t=⟨[(0,.p (.slice false (fY a))),(2,.p (.slice false (fK l))),(9,.p (.slice false (iP es))),(10,.p (.int .i64 i))],[],q,[0]⟩) ?_ l.length _ ⟨0,_,ae,rfl⟩;rintro j t ⟨i,q,hi,rfl⟩;refine bq R8.eq_1 ?_;rcases cK i l.length with c|c
 .have u:(i:Int)<l.length:=ae;have x:(0:Int)<=i:=ae;have v:i<es.length:=ae;have B:=Bi es i v;by_cases E:es[i].st=3
  .obtain⟨J,C⟩:=A i c v E;obtain⟨p,K⟩:=py.1 J;have L:=Ks false l[i] G H I;rw[K]at L;dsimp only[cq]at L;have R:=ti l i c;repeat'(first|exact L|(simp(disch:=omega) only[go_sem,seval,reduceCtorEq,u,x,B,aZ E,R,b,eJ,bne,beq_self_eq_true])|with_reducible exact Ev.mk|apply gb|((first|apply b5|apply bO)<;>intro o Z<;>(simp(disch:=omega) only[go_sem,seval,reduceCtorEq,u,x,B,aZ E,R,b,eJ,bne,beq_self_eq_true,o])<;>clear o))
   refine bU (λm t=>∃(k q:Nat),k+m=i/\t=⟨[(0,.p (.slice false (fY a))),(2,.p (.slice false (fK l))),(9,.p (.slice false (iP es))),(10,.p (.int .i64 i)),(13,.p (.bool (vz es es[i].reads k))),(14,.p (.int .i64 k))],[],q,[0]⟩) ?_ i _ ⟨0,_,ae,rfl⟩;rintro m t ⟨k,q,x0,rfl⟩;refine bq UE.eq_1 ?_;rcases cK k i with d|d
   .have M:(k:Int)<i:=ae;have N:(0:Int)<=k:=ae;have w:k<es.length:=ae;have O:=Bi es k w;have P:(k:Int)<l.length:=ae;have x1:=(z _ (List.getElem_mem w)).wl;refine gN M (k1 ?_);refine bU (λm t=>∃(j q:Nat),j+m=es[k].writes.length/\t=⟨[(0,.p (.slice false (fY a))),(2,.p (.slice false (fK l))),(9,.p (.slice false (iP es))),(10,.p (.int .i64 i)),(13,.p (.bool (A9 (vz es es[i].reads k) es[k].writes es[i].reads j))),(14,.p (.int .i64 k)),(15,.p (.int .i64 j))],[],q,[0]⟩) ?_ es[k].writes.length _ ⟨0,q,ae,by simp[A9]⟩;rintro n t ⟨r,q,hj,rfl⟩;refine bq Tt.eq_1 ?_;rcases cK r es[k].writes.length with f|f
    .have F:(r:Int)<es[k].writes.length:=ae;have S:(0:Int)<=r:=ae;have U:=jS es[k].writes r f;have Q:=M4 es[i].reads es[i].fr es[k].writes[r].key (by have:=(z _ (List.getElem_mem v)).rl;omega);have g:=Nr (vz es es[i].reads k) es[i].reads f;cases D:A9 (vz es es[i].reads k) es[k].writes es[i].reads r with
     |true=>
      rw[D,Bool.true_or]at g;refine gN (j0 u x B N O P F S U b @bK) (k1 ?_);exact LI.next (m':=n-1) ae ⟨r+1,_,ae,by rw[g]⟩
     |false=>
      rw[D,Bool.false_or]at g;refine gP (j0 u x B N O P F S U b @bK) Q (k1 ?_);exact LI.next (m':=n-1) ae ⟨r+1,_,ae,by rw[g]⟩
    .have F:¬(r:Int)<es[k].writes.length:=ae;obtain rfl:r=es[k].writes.length:=ae;have g:=Mc es[i].reads w;rw[<-g];refine gN (Gg u x N O P F b @bK) (k1 ?_);exact LI.next (m':=m-1) ae ⟨k+1,_,ae,rfl⟩
   .have M:¬(k:Int)<i:=ae;obtain rfl:k=i:=ae;rw[C];refine gN M (k1 ?_);exact LI.next (m':=j-1) ae ⟨k+1,_,ae,rfl⟩
  .refine gN (dM u x B E b) (k1 ?_);exact LI.next (m':=j-1) ae ⟨i+1,_,ae,rfl⟩
 .have u:¬(i:Int)<l.length:=ae;exact gP (bf u b) Y k0
def walkTopPlans{n o p:PV}(C:Fit (.slice [.str,.slice [.str,.int .i64],.rows 90]) n)(D:Fit (.slice [.str,.int .i64,.int .i64,.str]) o)
  (E:Fit (.slice [.int .i64,.str,.slice [.int .i64,.int .i64,.str],.bool,.slice [.str],.slice [.str],.int .i64]) p)
  (F:dK n<=1048576)(G:dK o<=1048576)(H:dK p<=1048576):PS tb 4 [n,o,p] (.bool true):=by
 obtain⟨a,rfl,c,b,f⟩:=Mz C F;obtain⟨s,rfl,g⟩:=Mo D G;obtain⟨l,rfl,q,r⟩:=Sq E H;have d:ka s:=⟨by have:=g.1;omega,g.2⟩;have m:Ac a (l.map (c8 a s)):=⟨by rw[List.length_map];exact q,λt h=>by
  obtain⟨x,u,rfl⟩:=List.mem_map.1 h;exact Rh c b (ON b d (r x u))⟩
 refine MK (s:=s) (es:=(List.range (l.map (c8 a s)).length).map (jo a (l.map (c8 a s)) s)) c b f d q aB (λe I=>?_) (λi h z A=>?_) (J5 false false false c b f d q r) (D3 a s _ false false false m g)
 .obtain⟨i,B,rfl⟩:=List.mem_map.1 I;rw[List.mem_range]at B;have u:gx (l.map (c8 a s)) i∈l.map (c8 a s):=by rw[Fi i B];exact List.getElem_mem _
  exact Ak (m.ok _ u) (ra m g i ae).2
 .have v:∀k (y:k<((List.range (l.map (c8 a s)).length).map (jo a (l.map (c8 a s)) s)).length),((List.range (l.map (c8 a s)).length).map (jo a (l.map (c8 a s)) s))[k]=jo a (l.map (c8 a s)) s k:=λk y=>aB
  rw[v i z]at A;obtain⟨J,k,y,w,K,L⟩:=TQ b r m g h A;refine⟨J,?_⟩;have j:k<((List.range (l.map (c8 a s)).length).map (jo a (l.map (c8 a s)) s)).length:=ae;rw[v i z];exact O8 y j (w:=w) (by rw[v k j];exact K) L
end
end Go.Dv.Tryz
