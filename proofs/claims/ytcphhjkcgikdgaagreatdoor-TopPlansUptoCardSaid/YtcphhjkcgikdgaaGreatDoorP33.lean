/- Lemmas for the law of this claim. -/
import Derived.Test.YtcphhjkcgikdgaaGreatDoorP32
set_option linter.all false
set_option maxRecDepth 100000
set_option maxHeartbeats 8000000
namespace Go.Dv.Tryz
section
open Go Go.Dv
def TP(op:Int):List PV×Bool:=
 if op=1\/op=2 then([.bool true,.bool true,.bool false,.bool false,.bool false,.bool false],true)
 else if op=3 then([.bool false,.bool true,.bool true,.bool false,.bool false,.bool false],true)
 else if op=4\/op=7 then([.bool false,.bool true,.bool false,.bool false,.bool false,.bool false],true)
 else if op=5 then([.bool false,.bool true,.bool false,.bool false,.bool true,.bool true],true)
 else if op=6 then([.bool true,.bool true,.bool true,.bool true,.bool true,.bool false],true)
 else if op=8 then([.bool false,.bool false,.bool false,.bool true,.bool false,.bool false],true)
 else([.bool false,.bool false,.bool false,.bool false,.bool false,.bool false],false)
def mN(op:Int):PS tb 228 [.int .i64 op] (.tuple [.agg (TP op).1,.bool (TP op).2]):=by
 refine bM (af:=a228) rfl rfl ?_;unfold a228;dsimp only[List.map,aQ,aj];repeat'(first|(simp(disch:=omega) only[go_sem,seval,reduceCtorEq])|with_reducible exact Ev.mk|((first|apply b5|apply bO)<;>intro c d<;>(simp(disch:=omega) only[go_sem,seval,reduceCtorEq,c])<;>clear c))
 all_goals first
  |(subst_vars;rfl)
  |(unfold TP;simp_all)
abbrev oI(op:Int)(name:ByteArray)(max:Int)(a b:aF)(f:Bool)(body:List aX)(g:Bool)(els:List aX):List PV:=[.int .i64 op,.str name,.int .i64 max,.int .i64 a.op,.int .i64 a.n,.str a.s,.slice a.f (aJ a.xs),.int .i64 b.op,.int .i64 b.n,.str b.s,.slice b.f (aJ b.xs),.slice f (bD body),.slice g (bD els)]
section
variable(op:Int)(name:ByteArray)(max:Int)(a b:aF)(f:Bool)(body:List aX)(g:Bool)(els:List aX)
def Oo{P q:Prop}(k:q)(h:Bx q->P:=by
 intro k;refine tM (af:=a229) rfl rfl ?_;unfold a229;dsimp only[List.map,aQ,aj];exact k.q):P:=h ⟨k⟩
def nw(e:a.xs.length<=1048576)(d:b.xs.length<=1048576)(h i j k l m:Bool)(n:body.length<=1099511627776)(o:els.length<=1099511627776):∃r,PS tb 229 [.agg (oI op name max a b f body g els),.agg [.bool h,.bool i,.bool j,.bool k,.bool l,.bool m]] (.bool r)/\True:=by
 have p:=BV a e;have q:=BV b d;refine Oo ?_;repeat'(first|exact p|exact q|(simp(disch:=omega) only[go_sem,seval,reduceCtorEq,aU])|with_reducible exact Ev.mk|apply gb|((first|apply b5|apply bO)<;>intro c d<;>(simp(disch:=omega) only[go_sem,seval,reduceCtorEq,aU,c])<;>clear c))
 all_goals exact⟨⟨_,trivial⟩,rfl⟩
def MP(l:a.xs.length<=1048576)(i:b.xs.length<=1048576)(j:body.length<=1099511627776)(k:els.length<=1099511627776):∃r,PS tb 229 [.agg (oI 6 name max a b f body g els),.agg [.bool true,.bool true,.bool true,.bool true,.bool true,.bool false]] (.bool r)/\(r=true->1<=max/\max<=16):=by
 by_cases d:1<=max
 .by_cases e:max<=16
  .refine Oo ?_;repeat'(first|(simp(disch:=omega) only[go_sem,seval,reduceCtorEq,aU,aZ d,aZ e])|with_reducible exact Ev.mk|((first|apply b5|apply bO)<;>intro c i<;>(simp(disch:=omega) only[go_sem,seval,reduceCtorEq,aU,aZ d,aZ e,c])<;>clear c))
   all_goals exact⟨⟨_,λ_=>⟨d,e⟩⟩,rfl⟩
  .refine Oo ?_;repeat'(first|(simp(disch:=omega) only[go_sem,seval,reduceCtorEq,aU,aZ d,e])|with_reducible exact Ev.mk|((first|apply b5|apply bO)<;>intro c i<;>(simp(disch:=omega) only[go_sem,seval,reduceCtorEq,aU,aZ d,e,c])<;>clear c))
   all_goals exact⟨⟨_,by intro h;first|contradiction|(simp at h)⟩,rfl⟩
 .refine Oo ?_;repeat'(first|(simp(disch:=omega) only[go_sem,seval,reduceCtorEq,aU,d])|with_reducible exact Ev.mk|((first|apply b5|apply bO)<;>intro c i<;>(simp(disch:=omega) only[go_sem,seval,reduceCtorEq,aU,d,c])<;>clear c))
  all_goals exact⟨⟨_,by intro h;first|contradiction|(simp at h)⟩,rfl⟩
end
end
end Go.Dv.Tryz
