/- Lemmas for the law of this claim. -/
import Derived.Test.YtcphhjkcgikdgaaGreatDoorP31
set_option linter.all false
set_option maxRecDepth 100000
set_option maxHeartbeats 8000000
namespace Go.Dv.Tryz
section
open Go Go.Dv
noncomputable def Yz (s:ByteArray):Int:=Classical.choose (Jw s)
def Pd(s:ByteArray):PS tb 223 [.str s] (.int .i64 (Yz s)):=(Dn (Jw s)).1
noncomputable def ID (a:Int):Int:=Classical.choose (Ai a)
def HH(a:Int):PS tb 264 [.int .i64 a] (.int .i64 (ID a)):=(Dn (Ai a)).1
def Jn{op:Int}(h:10<=op/\op<=15\/22<=op/\op<=24):ID op=if op<=15 then 2 else 1:=(Dn (Ai op)).2 h
def No(s:ByteArray)(k:s.size<=1048576):∃b,PS tb 195 [.str s] (.bool b)/\True:=by
 have a:=Pd s;have d:=PM s;refine tM (af:=QI) rfl rfl ?_;unfold QI;dsimp only[List.map,aQ,aj];by_cases e:s=⟨#[]⟩
 .refine gN (aZ e) (k1 ?_);all_goals exact⟨⟨_,trivial⟩,rfl⟩
 .have f:0<s.size:=by
   rcases tK s.size with h|h
   .exact absurd ((vO s).2 h) e
   .exact h
  obtain⟨c,g⟩:=byte_at s 0 f;have i:=c.toNat_lt;refine hP (bf e g) (c9 a d (λ{j}=>AT j)) (k4 ?_ ?_ ?_ ?_)<;>(repeat with_reducible intro l)
  all_goals exact⟨⟨_,trivial⟩,rfl⟩
noncomputable def isN (s:ByteArray):Bool:=Classical.epsilon λb=>PS tb 195 [.str s] (.bool b)
def uI(s:ByteArray)(a:s.size<=1048576):PS tb 195 [.str s] (.bool (isN s)):=j9 (p:=λb=>PS tb 195 [.str s] (.bool b)) (let⟨b,h,_⟩:=No s a;⟨b,h⟩)
def NT(e:aF):Bool:=decide (e.op=0)&&decide (e.n=0)&&decide (e.s=E)&&decide (e.xs.length=0)
def BV(e:aF)(b:e.xs.length<=1048576):PS tb 246 [.agg [.int .i64 e.op,.int .i64 e.n,.str e.s,.slice e.f (aJ e.xs)]] (.bool (NT e)):=by
 have a:decide ((e.xs.length:Int)=0)=decide (e.xs.length=0):=GG.2 ae;refine bM (af:=QS) rfl rfl ?_;unfold QS;dsimp only[List.map,aQ,aj];unfold NT;generalize c:decide (e.xs.length=0)=q at a⊢;exact gN (bf @aD a) k0;all_goals simp_all
def UA(e:aF)(l:e.s.size<=1048576)(o:e.xs.length<=1048576)(d:Int):∃n:Int,PS tb 255 [.agg [.int .i64 e.op,.int .i64 e.n,.str e.s,.slice e.f (aJ e.xs)],.int .i64 d] (.int .i64 n)/\(n=0->(e.xs.length:Int)=ID e.op/\(e.op=2->ga e.s=true)):=by
 have i:=HH e.op;have j:=uI e.s l;have g:=MQ e.s l;refine mA (af:=IQ) rfl rfl ?_;unfold IQ;dsimp only[List.map,aQ,aj];by_cases f:e.op=1
 .have b:¬e.op=2:=ae;have c:¬e.op=3:=ae;repeat'(first|exact i|exact j|exact g|(simp(disch:=omega) only[go_sem,seval,reduceCtorEq,aD,aZ f,b,c])|with_reducible exact Ev.mk|apply gb|((first|apply b5|apply bO)<;>intro a k<;>(simp(disch:=omega) only[go_sem,seval,reduceCtorEq,aD,aZ f,b,c,a])<;>clear a))
  all_goals exact⟨⟨_,by intro h;first|exact⟨ae,λh=>absurd h b⟩|omega|contradiction⟩,rfl⟩
 by_cases b:e.op=2
 .have c:¬e.op=3:=ae;cases m:ga e.s with
  |false=>
   rw[m]at g;refine hP (eY @aD f (aZ b) c) (c9 i j g) (k3 ?_ ?_ ?_)<;>(repeat with_reducible intro k)
   all_goals exact⟨⟨_,by intro h;first|omega|contradiction⟩,rfl⟩
  |true=>
   rw[m]at g;repeat'(first|exact i|exact j|exact g|(simp(disch:=omega) only[go_sem,seval,reduceCtorEq,aD,f,aZ b,c])|with_reducible exact Ev.mk|apply gb|((first|apply b5|apply bO)<;>intro a k<;>(simp(disch:=omega) only[go_sem,seval,reduceCtorEq,aD,f,aZ b,c,a])<;>clear a))
   all_goals exact⟨⟨_,by intro h;first|exact⟨ae,λ_=>rfl⟩|omega|contradiction⟩,rfl⟩
 by_cases c:e.op=3
 .repeat'(first|exact i|exact j|exact g|(simp(disch:=omega) only[go_sem,seval,reduceCtorEq,aD,f,b,aZ c])|with_reducible exact Ev.mk|apply gb|((first|apply b5|apply bO)<;>intro a k<;>(simp(disch:=omega) only[go_sem,seval,reduceCtorEq,aD,f,b,aZ c,a])<;>clear a))
  all_goals exact⟨⟨_,by intro h;first|exact⟨ae,λh=>absurd h b⟩|omega|contradiction⟩,rfl⟩
 .repeat'(first|exact i|exact j|exact g|(simp(disch:=omega) only[go_sem,seval,reduceCtorEq,aD,f,b,c])|with_reducible exact Ev.mk|apply gb|((first|apply b5|apply bO)<;>intro a k<;>(simp(disch:=omega) only[go_sem,seval,reduceCtorEq,aD,f,b,c,a])<;>clear a))
  all_goals exact⟨⟨_,by intro h;first|exact⟨ae,λh=>absurd h b⟩|omega|contradiction⟩,rfl⟩
end
section
open Go Go.Dv
mutual
def Ar:aF->Prop
 | .mk a _ s _ b=>((b.length:Int)=ID a/\(a=2->ga s=true))/\IT b
def IT:List aF->Prop
 |[]=>True
 |e::r=>Ar e/\IT r
end
def wS:∀{l:List aF},IT l↔∀e∈l,Ar e
 |[]=>by simp[IT]
 |x::r=>by simp only[IT,wS,List.mem_cons,forall_eq_or_imp]
def aF.aar{e:aF}(h:e.ok):e.s.size<=1048576:=by cases e;simp only[aF.ok]at h;exact h.2.2.1
def aF.YZ{e:aF}(h:e.ok):fQ e.xs:=by cases e;simp only[aF.ok]at h;exact h.2.2.2
def aF.fj(e:aF):e.sz=1+cI e.xs:=by cases e;simp only[aF.sz,aF.xs]
def M3(e:aF):Ar e↔((e.xs.length:Int)=ID e.op/\(e.op=2->ga e.s=true))/\IT e.xs:=by cases e;simp only[Ar,aF.xs,aF.op,aF.s]
def ja:∀{l:List aF} {e:aF},e∈l->e.sz<=cI l
 |x::r,e,h=>by
  simp only[cI];rcases List.mem_cons.1 h with rfl|h
  .omega
  .have:=ja h;omega
def CK:∀(n:Nat) (e:aF),e.sz<=n->n<=1048576->e.ok->∀d:Int,∃r:Int,PS tb 247 [.agg [.int .i64 e.op,.int .i64 e.n,.str e.s,.slice e.f (aJ e.xs)],.int .i64 d] (.int .i64 r)/\(r=0->Ar e)
 |0,e,b,_,_=>by cases e;simp[aF.sz]at b
 |n+1,e,b,D,u=>by
  intro d;have a:e.xs.length<=1048576:=by have:=bI e.xs;rw[aF.fj]at b;omega
  obtain⟨v,w,m⟩:=UA e (aF.aar u) a d;refine mA (af:=K5) rfl rfl ?_;unfold K5;dsimp only[List.map,aQ,aj];by_cases f:v=0
  .have C:=m f;refine gP (bf @aD (aZ f)) w (k1 ?_);have o:cI e.xs<=n:=by rw[aF.fj]at b;omega
   have p:=aF.YZ u;refine bU (λj y=>∃(i z:Nat),i+j=e.xs.length/\(∀x∈e.xs.take i,Ar x)/\y=⟨[(1,.p (.int .i64 d)),(16,.p (.slice e.f (aJ e.xs))),(17,.p (.int .i64 e.xs.length)),(18,.p (.int .i64 i))],[],z,[0]⟩) ?_ e.xs.length _ ⟨0,1,ae,aB,rfl⟩;rintro j y ⟨i,z,E,q,rfl⟩;refine bq Df.eq_1 ?_;rcases cK i e.xs.length with c|c
   .have g:(i:Int)<e.xs.length:=ae;have A:(0:Int)<=i:=ae;have s:=jh e.xs i c;rw[aF.pM]at s;obtain⟨r,B,t⟩:=CK n e.xs[i] (dL (ja (List.getElem_mem c)) o) ae (pV p _ (List.getElem_mem c)) (IntKind.i64.wrap (d+1));by_cases k:r=0
    .refine gP (dM g A @aD s (aZ k)) B (k1 ?_);all_goals first
      |contradiction
      |(refine LI.next (m':=j-1) ae ⟨i+1,0,ae,?_,rfl⟩
        intro x l;rw[List.take_succ_eq_append_getElem c,List.mem_append,List.mem_singleton]at l;rcases l with l|rfl
        .exact q x l
        .exact t k)
    .refine gP (dM g A @aD s k) B (k1 ?_);all_goals first
      |contradiction
      |exact⟨⟨r,λh=>absurd h k⟩,rfl⟩
   .have g:¬(i:Int)<e.xs.length:=ae;refine gN g (k1 ?_);refine⟨⟨0,λ_=>?_⟩,rfl⟩;rw[List.take_of_length_le c]at q;exact(M3 e).2 ⟨C,wS.2 q⟩
  .refine gP (bf @aD f) w (k1 ?_);all_goals first
    |contradiction
    |exact⟨⟨v,λh=>absurd h f⟩,rfl⟩
def jV(e:aF)(a:e.ok)(b:e.sz<=1048576):∃r:Int,PS tb 230 [.agg [.int .i64 e.op,.int .i64 e.n,.str e.s,.slice e.f (aJ e.xs)]] (.int .i64 r)/\(r=0->Ar e):=by
 obtain⟨r,c,d⟩:=CK e.sz e (Nat.le_refl _) b a 1;refine⟨r,?_,d⟩;refine bM (af:=Ja) rfl rfl ?_;unfold Ja;dsimp only[List.map,aQ,aj];exact gP trivial c k0
end
end Go.Dv.Tryz
