/- Lemmas for the law of this claim. -/
import Derived.Test.YtcphhjkcgikdgaaGreatDoorP33
set_option linter.all false
set_option maxRecDepth 100000
set_option maxHeartbeats 8000000
namespace Go.Dv.Tryz
section
open Go Go.Dv
def Vd(op:Int):List PV×Bool:=
 if op=1\/op=2 then([.bool true,.bool true,.bool false,.bool false,.bool false,.bool false],true)
 else if op=3 then([.bool false,.bool true,.bool true,.bool false,.bool false,.bool false],true)
 else if op=4\/op=7 then([.bool false,.bool true,.bool false,.bool false,.bool false,.bool false],true)
 else if op=5 then([.bool false,.bool true,.bool false,.bool false,.bool true,.bool true],true)
 else if op=6 then([.bool true,.bool true,.bool true,.bool true,.bool true,.bool false],true)
 else if op=8 then([.bool false,.bool false,.bool false,.bool true,.bool false,.bool false],true)
 else([.bool false,.bool false,.bool false,.bool false,.bool false,.bool false],false)
def nJ(op:Int):PS tb 228 [.int .i64 op] (.tuple [.agg (Vd op).1,.bool (Vd op).2]):=by
 refine bD (af:=a228) rfl rfl ?_;unfold a228;dsimp only[List.map,aI,ai];repeat'(first|(simp(disch:=omega) only[go_sem,seval,reduceCtorEq])|with_reducible exact Ev.mk|((first|apply aY|apply aQ)<;>intro c d<;>(simp(disch:=omega) only[go_sem,seval,reduceCtorEq,c])<;>clear c))
 all_goals first
  |(subst_vars;rfl)
  |(unfold Vd;simp_all)
abbrev qy(op:Int)(name:ByteArray)(max:Int)(a b:bj)(f:Bool)(body:List cl)(g:Bool)(els:List cl):List PV:=[.int .i64 op,.str name,.int .i64 max,.int .i64 a.op,.int .i64 a.n,.str a.s,.slice a.f (cn a.xs),.int .i64 b.op,.int .i64 b.n,.str b.s,.slice b.f (cn b.xs),.slice f (cU body),.slice g (cU els)]
section
variable(op:Int)(name:ByteArray)(max:Int)(a b:bj)(f:Bool)(body:List cl)(g:Bool)(els:List cl)
def mE(e:a.xs.length<=1048576)(d:b.xs.length<=1048576)(h i j k l m:Bool)(n:body.length<=1099511627776)(o:els.length<=1099511627776):∃r,PS tb 229 [.agg (qy op name max a b f body g els),.agg [.bool h,.bool i,.bool j,.bool k,.bool l,.bool m]] (.bool r)/\True:=by
 have p:=De a e;have q:=De b d;refine uI (af:=a229) rfl rfl ?_;unfold a229;dsimp only[List.map,aI,ai];repeat'(first|exact p|exact q|(simp(disch:=omega) only[go_sem,seval,reduceCtorEq,cG])|with_reducible exact Ev.mk|apply cT|((first|apply aY|apply aQ)<;>intro c d<;>(simp(disch:=omega) only[go_sem,seval,reduceCtorEq,cG,c])<;>clear c))
 all_goals exact⟨⟨_,trivial⟩,rfl⟩
end
end
end Go.Dv.Tryz
