/- Lemmas for the law of this claim. -/
import Derived.Test.YtcphhjkcgikdgaaGreatDoorProg
import Derived.Shelf.Small.Strs
import Derived.Shelf.Strconv.Itoa4
import Derived.Shelf.Sort.Plain
import Derived.Test.YtcphhjkcgikdgaaGreatDoorP20
set_option linter.all false
set_option maxRecDepth 100000
namespace Go.Dv.Tryz
section
open Go Go.Shelf Go.Proofs
def HB:Ren:=⟨fun|106=>98|213=>124|265=>153|n=>n,fun|9=>9|3=>3|n=>n,fun|n=>n⟩
theorem R9:Lays.n106 Proofs.Tryz.prog HB:={
 mixed:=by kernel_rfl,
 f106:=Proofs.Tryz.func98.trans (congrArg some (by kernel_rfl)),
 f213:=Proofs.Tryz.func124.trans (congrArg some (by kernel_rfl)),
 f265:=Proofs.Tryz.func153.trans (congrArg some (by kernel_rfl)),
 t3:=Proofs.Tryz.underlying3,
 a3:=Proofs.Tryz.isAgg3,
 z3:=Proofs.Tryz.sizeOf3,
 v3:=Proofs.Tryz.zeroValue3,
 t9:=Proofs.Tryz.underlying9,
 a9:=Proofs.Tryz.isAgg9,
 z9:=Proofs.Tryz.sizeOf9,
 v9:=Proofs.Tryz.zeroValue9}
def G6:Ren:=⟨fun|173=>232|246=>249|283=>258|284=>259|285=>260|286=>261|129=>152|317=>266|318=>267|319=>268|320=>269|337=>271|338=>272|n=>n,fun|2=>2|3=>3|9=>9|4=>4|171=>317|0=>0|53=>221|37=>319|5=>5|173=>320|212=>325|51=>219|20=>20|213=>326|46=>183|232=>328|233=>329|n=>n,fun|17=>1|18=>2|19=>3|n=>n⟩
theorem TI:LaysM.n173 Proofs.Tryz.prog G6:={
 mixed:=by kernel_rfl,
 f129:=Proofs.Tryz.func152.trans (congrArg some (by kernel_rfl)),
 f173:=Proofs.Tryz.func232.trans (congrArg some (by kernel_rfl)),
 f246:=Proofs.Tryz.func249.trans (congrArg some (by kernel_rfl)),
 f283:=Proofs.Tryz.func258.trans (congrArg some (by kernel_rfl)),
 f284:=Proofs.Tryz.func259.trans (congrArg some (by kernel_rfl)),
 f285:=Proofs.Tryz.func260.trans (congrArg some (by kernel_rfl)),
 f286:=Proofs.Tryz.func261.trans (congrArg some (by kernel_rfl)),
 f317:=Proofs.Tryz.func266.trans (congrArg some (by kernel_rfl)),
 f318:=Proofs.Tryz.func267.trans (congrArg some (by kernel_rfl)),
 f319:=Proofs.Tryz.func268.trans (congrArg some (by kernel_rfl)),
 f320:=Proofs.Tryz.func269.trans (congrArg some (by kernel_rfl)),
 f337:=Proofs.Tryz.func271.trans (congrArg some (by kernel_rfl)),
 f338:=Proofs.Tryz.func272.trans (congrArg some (by kernel_rfl)),
 t0:=Proofs.Tryz.underlying0,
 a0:=Proofs.Tryz.isAgg0,
 z0:=Proofs.Tryz.sizeOf0,
 v0:=Proofs.Tryz.zeroValue0,
 t2:=Proofs.Tryz.underlying2,
 a2:=Proofs.Tryz.isAgg2,
 z2:=Proofs.Tryz.sizeOf2,
 v2:=Proofs.Tryz.zeroValue2,
 t3:=Proofs.Tryz.underlying3,
 a3:=Proofs.Tryz.isAgg3,
 z3:=Proofs.Tryz.sizeOf3,
 v3:=Proofs.Tryz.zeroValue3,
 t4:=Proofs.Tryz.underlying4,
 a4:=Proofs.Tryz.isAgg4,
 z4:=Proofs.Tryz.sizeOf4,
 v4:=Proofs.Tryz.zeroValue4,
 t5:=Proofs.Tryz.underlying5,
 a5:=Proofs.Tryz.isAgg5,
 z5:=Proofs.Tryz.sizeOf5,
 v5:=Proofs.Tryz.zeroValue5,
 t9:=Proofs.Tryz.underlying9,
 a9:=Proofs.Tryz.isAgg9,
 z9:=Proofs.Tryz.sizeOf9,
 v9:=Proofs.Tryz.zeroValue9,
 t20:=Proofs.Tryz.underlying20,
 a20:=Proofs.Tryz.isAgg20,
 z20:=Proofs.Tryz.sizeOf20,
 v20:=Proofs.Tryz.zeroValue20,
 t37:=Proofs.Tryz.underlying319,
 a37:=Proofs.Tryz.isAgg319,
 z37:=Proofs.Tryz.sizeOf319,
 v37:=Proofs.Tryz.zeroValue319,
 t46:=Proofs.Tryz.underlying183,
 a46:=Proofs.Tryz.isAgg183,
 z46:=Proofs.Tryz.sizeOf183,
 v46:=Proofs.Tryz.zeroValue183,
 t51:=Proofs.Tryz.underlying219,
 a51:=Proofs.Tryz.isAgg219,
 z51:=Proofs.Tryz.sizeOf219,
 v51:=Proofs.Tryz.zeroValue219,
 t53:=Proofs.Tryz.underlying221,
 a53:=Proofs.Tryz.isAgg221,
 z53:=Proofs.Tryz.sizeOf221,
 v53:=Proofs.Tryz.zeroValue221,
 t171:=Proofs.Tryz.underlying317,
 a171:=Proofs.Tryz.isAgg317,
 z171:=Proofs.Tryz.sizeOf317,
 v171:=Proofs.Tryz.zeroValue317,
 t173:=Proofs.Tryz.underlying320,
 a173:=Proofs.Tryz.isAgg320,
 z173:=Proofs.Tryz.sizeOf320,
 v173:=Proofs.Tryz.zeroValue320,
 t212:=Proofs.Tryz.underlying325,
 a212:=Proofs.Tryz.isAgg325,
 z212:=Proofs.Tryz.sizeOf325,
 v212:=Proofs.Tryz.zeroValue325,
 t213:=Proofs.Tryz.underlying326,
 a213:=Proofs.Tryz.isAgg326,
 z213:=Proofs.Tryz.sizeOf326,
 t232:=Proofs.Tryz.underlying328,
 a232:=Proofs.Tryz.isAgg328,
 z232:=Proofs.Tryz.sizeOf328,
 v232:=Proofs.Tryz.zeroValue328,
 t233:=Proofs.Tryz.underlying329,
 a233:=Proofs.Tryz.isAgg329,
 z233:=Proofs.Tryz.sizeOf329,
 v233:=Proofs.Tryz.zeroValue329,
 g17:=by kernel_rfl,
 g18:=by kernel_rfl,
 g19:=by kernel_rfl,
 i0:=by kernel_rfl,
 i2:=by kernel_rfl,
 i3:=by kernel_rfl,
 i4:=by kernel_rfl,
 i5:=by kernel_rfl,
 i9:=by kernel_rfl,
 i20:=by kernel_rfl,
 i37:=by kernel_rfl,
 i46:=by kernel_rfl,
 i51:=by kernel_rfl,
 i53:=by kernel_rfl,
 i171:=by kernel_rfl,
 i173:=by kernel_rfl,
 i212:=by kernel_rfl,
 i232:=by kernel_rfl,
 i233:=by kernel_rfl,
 m17:=by kernel_rfl,
 m18:=by kernel_rfl,
 m19:=by kernel_rfl}
def It:Ren:=⟨fun|189=>92|125=>120|257=>119|128=>151|129=>152|294=>142|295=>143|296=>144|297=>145|298=>146|299=>147|216=>148|300=>149|301=>150|328=>178|329=>179|330=>180|331=>181|332=>182|215=>183|343=>217|n=>n,fun|28=>25|3=>3|46=>183|0=>0|51=>219|53=>221|4=>4|183=>212|182=>211|131=>138|5=>5|9=>9|218=>248|222=>252|228=>279|229=>280|n=>n,fun|n=>n⟩
theorem Vm:Lays.n189 Proofs.Tryz.prog It:={
 mixed:=by kernel_rfl,
 f125:=Proofs.Tryz.func120.trans (congrArg some (by kernel_rfl)),
 f128:=Proofs.Tryz.func151.trans (congrArg some (by kernel_rfl)),
 f129:=Proofs.Tryz.func152.trans (congrArg some (by kernel_rfl)),
 f189:=Proofs.Tryz.func92.trans (congrArg some (by kernel_rfl)),
 f215:=Proofs.Tryz.func183.trans (congrArg some (by kernel_rfl)),
 f216:=Proofs.Tryz.func148.trans (congrArg some (by kernel_rfl)),
 f257:=Proofs.Tryz.func119.trans (congrArg some (by kernel_rfl)),
 f294:=Proofs.Tryz.func142.trans (congrArg some (by kernel_rfl)),
 f295:=Proofs.Tryz.func143.trans (congrArg some (by kernel_rfl)),
 f296:=Proofs.Tryz.func144.trans (congrArg some (by kernel_rfl)),
 f297:=Proofs.Tryz.func145.trans (congrArg some (by kernel_rfl)),
 f298:=Proofs.Tryz.func146.trans (congrArg some (by kernel_rfl)),
 f299:=Proofs.Tryz.func147.trans (congrArg some (by kernel_rfl)),
 f300:=Proofs.Tryz.func149.trans (congrArg some (by kernel_rfl)),
 f301:=Proofs.Tryz.func150.trans (congrArg some (by kernel_rfl)),
 f328:=Proofs.Tryz.func178.trans (congrArg some (by kernel_rfl)),
 f329:=Proofs.Tryz.func179.trans (congrArg some (by kernel_rfl)),
 f330:=Proofs.Tryz.func180.trans (congrArg some (by kernel_rfl)),
 f331:=Proofs.Tryz.func181.trans (congrArg some (by kernel_rfl)),
 f332:=Proofs.Tryz.func182.trans (congrArg some (by kernel_rfl)),
 f343:=Proofs.Tryz.func217.trans (congrArg some (by kernel_rfl)),
 t0:=Proofs.Tryz.underlying0,
 a0:=Proofs.Tryz.isAgg0,
 z0:=Proofs.Tryz.sizeOf0,
 v0:=Proofs.Tryz.zeroValue0,
 t3:=Proofs.Tryz.underlying3,
 a3:=Proofs.Tryz.isAgg3,
 z3:=Proofs.Tryz.sizeOf3,
 v3:=Proofs.Tryz.zeroValue3,
 t4:=Proofs.Tryz.underlying4,
 a4:=Proofs.Tryz.isAgg4,
 z4:=Proofs.Tryz.sizeOf4,
 v4:=Proofs.Tryz.zeroValue4,
 t5:=Proofs.Tryz.underlying5,
 a5:=Proofs.Tryz.isAgg5,
 z5:=Proofs.Tryz.sizeOf5,
 v5:=Proofs.Tryz.zeroValue5,
 t9:=Proofs.Tryz.underlying9,
 a9:=Proofs.Tryz.isAgg9,
 z9:=Proofs.Tryz.sizeOf9,
 v9:=Proofs.Tryz.zeroValue9,
 t28:=Proofs.Tryz.underlying25,
 a28:=Proofs.Tryz.isAgg25,
 z28:=Proofs.Tryz.sizeOf25,
 v28:=Proofs.Tryz.zeroValue25,
 t46:=Proofs.Tryz.underlying183,
 a46:=Proofs.Tryz.isAgg183,
 z46:=Proofs.Tryz.sizeOf183,
 v46:=Proofs.Tryz.zeroValue183,
 t51:=Proofs.Tryz.underlying219,
 a51:=Proofs.Tryz.isAgg219,
 z51:=Proofs.Tryz.sizeOf219,
 v51:=Proofs.Tryz.zeroValue219,
 t53:=Proofs.Tryz.underlying221,
 a53:=Proofs.Tryz.isAgg221,
 z53:=Proofs.Tryz.sizeOf221,
 v53:=Proofs.Tryz.zeroValue221,
 t131:=Proofs.Tryz.underlying138,
 a131:=Proofs.Tryz.isAgg138,
 z131:=Proofs.Tryz.sizeOf138,
 v131:=Proofs.Tryz.zeroValue138,
 t182:=Proofs.Tryz.underlying211,
 a182:=Proofs.Tryz.isAgg211,
 z182:=Proofs.Tryz.sizeOf211,
 v182:=Proofs.Tryz.zeroValue211,
 t183:=Proofs.Tryz.underlying212,
 a183:=Proofs.Tryz.isAgg212,
 z183:=Proofs.Tryz.sizeOf212,
 v183:=Proofs.Tryz.zeroValue212,
 t218:=Proofs.Tryz.underlying248,
 a218:=Proofs.Tryz.isAgg248,
 z218:=Proofs.Tryz.sizeOf248,
 v218:=Proofs.Tryz.zeroValue248,
 t222:=Proofs.Tryz.underlying252,
 a222:=Proofs.Tryz.isAgg252,
 z222:=Proofs.Tryz.sizeOf252,
 v222:=Proofs.Tryz.zeroValue252,
 t228:=Proofs.Tryz.underlying279,
 a228:=Proofs.Tryz.isAgg279,
 z228:=Proofs.Tryz.sizeOf279,
 v228:=Proofs.Tryz.zeroValue279,
 t229:=Proofs.Tryz.underlying280,
 a229:=Proofs.Tryz.isAgg280,
 z229:=Proofs.Tryz.sizeOf280,
 v229:=Proofs.Tryz.zeroValue280}
end
end Go.Dv.Tryz
namespace Go.Dv
def Np(n:Nat):bT n []=true:=rfl
attribute [go_sem] D2 uV tr nF j5 Gt FZ On Xv zh Et canon List.filterMap_cons List.filterMap_nil XI Xx gd jt bf ag St.ev St.xM da jJ dF fI aC jF gH ff qv ja dv tH se Uv wA L5 Cn B4 jb vz JL jx P3 jP jq sh Ca zA pE gz L2 de nb aD below bq.below dp mM bq.freeze fg aS dep kF List.map List.all List.any List.filterMap List.length List.append List.flatMap List.flatten ez putAt DV.cells PV.cellsOf DV.iz PV.iz PV.plain aI wZ ai fP bP tv Option.getD List.replicate beq_self_eq_true bne_self_eq_false Bool.false_eq_true Bool.and_true Bool.true_and Bool.and_false Bool.false_and Bool.or_true Bool.true_or Bool.or_false Bool.false_or decide_true decide_false Nat.max_self Nat.zero_le Int.toNat_natCast Nat.le_refl List.getElem?_cons_zero List.getElem?_cons_succ DW BX Bool.not_true Bool.not_false Bool.not_not and_self and_true true_and not_false_eq_true not_true_eq_false List.cons_append List.nil_append List.append_nil List.drop_succ_cons List.drop_zero List.take_succ_cons List.take_zero List.length_cons List.length_nil gt_iff_lt ge_iff_le Int.toNat_zero Go.IntWalk.i64_in JD Option.map_some Option.map_none Nat.zero_add List.isEmpty_nil List.isEmpty_cons Int.le_refl Int.lt_irrefl Nat.lt_irrefl Nat.max_def List.not_mem_nil Np vO FO F2 JJ MV.pv SC.pv kn oU sT mg
section
def dX.nG:dX->Bool
 | .call _ _ _| .eM _ _ _| .jT _ _=>true
 |_=>false
def dX.isRef:dX->Bool
 | .call b _ _| .eM b _ _=>b
 | .jT _ _=>true
 |_=>false
def HL{s:St}{d:dX}(h:d.nG=false):jt s d=none:=by
 cases d<;>simp_all [dX.nG,jt]
def Iv{d:dX}(h:d.nG=false):zW d=none:=by
 cases d<;>simp_all [dX.nG,zW]
def RK(K:Ex->St->Prop)(a:List Nat)(s:St):Prop:=K .normal {s with env:=da s.env a}
def V5(T:dw)(K:Ex->St->Prop)(a:List (Nat×Nat))(b:List aj)(f d:List Nat)(s:St)(r:List (List Nat))(g:St):Prop:=ju a b g.env=true/\oh (canon s.next f g) λe=>D2 T b a f s e r/\K .normal {e with env:=da e.env d}
def WY(K:Ex->St->Prop)(a:List (Nat×Nat))(d:List aj)(b:List Nat)(s:St):Prop:=ju a d s.env=true/\K .normal {s with env:=da s.env b}
def KK(T:dw)(k:List Nat)(r:List (aj×List Nat))(Q:St->Prop)(s:St):Prop:=mX T r {s with env:=da s.env k} Q
def KN(K:Ex->St->Prop)(s:St):Prop:=K .normal s
def XB(T:dw)(b:Option Bool)(x y:aG)(s:St)(K:Ex->St->Prop):Prop:=oh b λb=>Br b (W T x s K) (W T y s K)
def XG(T:dw)(q:Option St)(c:aG)(K:Ex->St->Prop):Prop:=oh q λs'=>W T c s' K
def XC(T:dw)(o:aj)(r:List aj)(s:St)(Q:St->Prop):Prop:=Au T o.op s λx=>cv T r (jF s o.dst x) Q
def G2(T:dw)(o:aj)(r:List aj)(s:St)(Q:St->Prop):Prop:=XC T o r s Q
def XE(T:dw)(b:Bool)(o:aj)(r:List aj)(s:St)(Q:St->Prop):Prop:=XC T o r s Q
def XO(T:dw)(q:Option (DV×Heap×Nat))(o:aj)(r:List aj)(s:St)(Q:St->Prop):Prop:=oh q λx=>cv T r (jF s o.dst x) Q
def XD(T:dw)(b:Bool)(o:aj)(r:List aj)(s:St)(Q:St->Prop):Prop:=
 match b with
 |true=>XE T o.op.isRef o r s Q
 |false=>XO T (bf l6 o.op s) o r s Q
def XQ(T:dw)(b:Option Bool)(o:aj)(r:List aj)(s:St)(Q:St->Prop):Prop:=
 oh b λb=>Br b (XD T o.op.nG o r s Q) (cv T r {s with env:=dF s.env o.dst (.tuple [])} Q)
def XR(q:Option DV)(R:DV->St->Prop)(s:St):Prop:=oh q λv=>R v s
section
variable{T:dw}{s s':St}{K:Ex->St->Prop}{o:aj}{r:List aj}{Q:St->Prop}{x y c:aG}{R:DV->St->Prop}
def Ix:XB T (some true) x y s K=W T x s K:=by unfold XB;rw[kC,uO]
def Fx:XB T (some false) x y s K=W T y s K:=by unfold XB;rw[kC,vu]
def Lq:XG T (some s) c K=W T c s K:=by unfold XG;rw[kC]
def UO{q:DV×Heap×Nat}:XO T (some q) o r s Q=cv T r (jF s o.dst q) Q:=by unfold XO;rw[kC]
def Tv:XD T true o r s Q=XE T o.op.isRef o r s Q:=c9 rfl rfl
def T9:XE T true o r s Q=G2 T o r s Q:=c9 rfl rfl
def Q5:XE T false o r s Q=XC T o r s Q:=c9 rfl rfl
def Gg:XD T false o r s Q=XO T (bf l6 o.op s) o r s Q:=c9 rfl rfl
def IV:XQ T (some true) o r s Q=XD T o.op.nG o r s Q:=by unfold XQ;rw[kC,uO]
def FW:XQ T (some false) o r s Q=cv T r {s with env:=dF s.env o.dst (.tuple [])} Q:=by unfold XQ;rw[kC,vu]
def R4{v:DV}:XR (some v) R s=R v s:=by unfold XR;rw[kC]
def EX{b:Bool}(a:b=true->W T x s K)(d:b=false->W T y s K):XB T (some b) x y s K:=by
 cases b
 .rw[Fx];exact d rfl
 .rw[Ix];exact a rfl
def EC{b:Bool}(a:b=true->XD T o.op.nG o r s Q)(d:b=false->cv T r {s with env:=dF s.env o.dst (.tuple [])} Q):XQ T (some b) o r s Q:=by
 cases b
 .rw[FW];exact d rfl
 .rw[IV];exact a rfl
def Yv{a:List Nat}:cv T [] s (RK K a)=K .normal {s with env:=da s.env a}:=by
 unfold cv RK;exact c9 rfl rfl
def Wv{e:Env}{h:Heap}{n:Nat}{m:List Nat}:cv T (o::r) ⟨e,h,n,m⟩ Q=XQ T (gd o.guard e) o r ⟨e,h,n,m⟩ Q:=by
 have h:cv T (o::r) ⟨e,h,n,m⟩ Q=oh (gd o.guard e) λb=>Br b (Au T o.op ⟨e,h,n,m⟩ λx=>cv T r (jF ⟨e,h,n,m⟩ o.dst x) Q) (cv T r {env:=dF e o.dst (.tuple []),heap:=h,next:=n,marks:=m} Q):=by
  conv=>lhs;unfold cv
 rw[h];unfold XQ;have d:∀s:St,XD T o.op.nG o r s Q=Au T o.op s λx=>cv T r (jF s o.dst x) Q:=by
  intro s;cases a:o.op.nG with
  |true=>rfl
  |false=>rw[Gg];unfold Au XO;rw[HL a,Iv a]
 rw[d]
def Pk{d:Bool}{b:List aj}{a:List Nat}:W T (.region d b a) s K=cv T b s (RK K a):=by
 rw[PN];rfl
def V1{a:List (Nat×Nat)}{d:List aj}{b:List Nat}:cv T [] s (WY K a d b)=(ju a d s.env=true/\K .normal {s with env:=da s.env b}):=by
 unfold cv WY;exact c9 rfl rfl
def MP{a:List (Nat×Nat)}{d:List aj}{b:List Nat}:W T (.jY a d b) s K=cv T d s (WY K a d b):=by
 conv=>lhs;unfold W
 rfl
def NP{a:List (Nat×Nat)}{f:List Nat}{l:List Nat}{r:List (List Nat)}{d:List aj}{e b:List Nat}:W T (.nu a f (l::r) d e b) s K=cv T (uV d l) s (V5 T K a d e b s r):=by
 conv=>lhs;unfold W
 rfl
def Wm{a:List (Nat×Nat)}{d:List aj}{e b:List Nat}{f:St}{r:List (List Nat)}:cv T [] s (V5 T K a d e b f r)=(ju a d s.env=true/\oh (canon f.next e s) λg=>D2 T d a e f g r/\K .normal {g with env:=da g.env b}):=by
 unfold cv V5;exact c9 rfl rfl
def Wo{a:List (Nat×Nat)}{b:List aj}{d:List Nat}{n:Nat}{e:St}:cv T [] s (Yg a b d n e)=(ju a b s.env=true/\canon n d s=some e):=by
 unfold cv Yg;exact c9 rfl rfl
def LY{d:Bool}{a:List (aj×List Nat)}:W T (.bE d a) s K=mX T a s (KN K):=by
 conv=>lhs;unfold W
 rfl
def SW{k:List Nat}{r:List (aj×List Nat)}:mX T ((o,k)::r) s Q=cv T [o] s (KK T k r Q):=by
 conv=>lhs;unfold mX
 rfl
def V3{k:List Nat}{r:List (aj×List Nat)}:cv T [] s (KK T k r Q)=mX T r {s with env:=da s.env k} Q:=by
 unfold cv KK;exact c9 rfl rfl
def Wy:mX T [] s (KN K)=K .normal s:=by
 unfold mX KN;exact c9 rfl rfl
def W8{c:DO}:W T (.cond c x y) s K=XB T (s.xM c) x y s K:=by rw[Xf];rfl
def I5{g:Ea}:W T (.ghost g c) s K=XG T (gz g s) c K:=by rw[RM];rfl
def VU{a:List gB}:eX a R .ret s=XR (fP s a) R s:=by rw[QJ];rfl
def Sw{a:List gB}:eX a R .normal s=XR (fP s a) R s:=by rw[Hk];rfl
def Wu:W T .skip s K=K .normal s:=c9 VR rfl
def Za:W T .ret s K=K .ret s:=c9 Y2 rfl
def WT{i:Nat}:W T (.exit i) s K=K (.exit i) s:=c9 Xn rfl
def Y7:W T (.seq x y) s K=W T x s (SK T y K):=c9 XZ rfl
def yZ{i:Nat}:W T (.block i x) s K=W T x s (BK i K):=c9 RU rfl
def aaw:SK T c K .normal s=W T c s K:=c9 MM rfl
def ZW{i:Nat}:SK T c K (.exit i) s=K (.exit i) s:=c9 Se rfl
def ZT:SK T c K .ret s=K .ret s:=c9 Xm rfl
def aaD{i:Nat}:BK i K .normal s=K .normal s:=c9 Mi rfl
def YD{i j:Nat}:BK i K (.exit j) s=if j=i then K .normal s else K (.exit j) s:=c9 UL rfl
def YV{i:Nat}:BK i K .ret s=K .ret s:=c9 VT rfl
def Yr{i:Nat}:LK T c K (.exit i) s=K (.exit i) s:=c9 Vj rfl
def ZE:LK T c K .ret s=K .ret s:=c9 VZ rfl
def Il{f:FuncId}{l:List DV}{ps:List PV}{v:PV}{H:Heap}(a:jt s o.op=some (false,some (f,l)))(b:bP (aS s.heap dep) l=some ps)(d:PS T f ps v)
  (e:(if v.plain then s.heap else dp s.heap (l.flatMap (fg s.heap dep)))=H)(g:jF s o.dst (aI v,H,s.next)=s')(h:cv T r s' Q):XC T o r s Q:=by
 subst g;subst e;unfold XC;simp only[Au,a,uL,b,kC];exact⟨v,d,h⟩
def Ux{f:FuncId}{l:List DV}{v:DV}{H:Heap}{n:Nat}(a:jt s o.op=some (true,some (f,l)))(b:BS T f l s.heap s.next v H n)
  (d:jF s o.dst (v,H,n)=s')(h:cv T r s' Q):G2 T o r s Q:=by
 subst d;unfold G2 XC;simp only[Au,a,uL];exact⟨v,H,n,b,h⟩
def Mj{f:FuncId}{args:List DO}{l:List DV}{v:DV}{H:Heap}{n:Nat}(a:o.op=.jT f args)(b:gH s args=some l)(d:BS T f l s.heap s.next v H n)(e:HK s.heap s.next v H)
  (g:jF s o.dst (v,H,n)=s')(h:cv T r s' Q):G2 T o r s Q:=by
 subst g;unfold G2 XC Au;rw[a];simp only[jt,zW,Xu,b,kC];exact⟨v,H,n,d,e,h⟩
end
def Ev{d:Type}(a b:d):Prop:=a=b
def Ev.mk{b:Type}{a:b}:Ev a a:=rfl
def Ev.of{d:Type}{a b:d}(h:a=b):Ev a b:=h
@[congr] theorem Z6 {e:Type} {a d b:e} (h:a=d):Ev a b=Ev d b:=by rw[h]
def KF(T:dw)(x:aG)(K:Ex->St->Prop)(s:St):Prop:=W T x s K
def KP(T:dw)(k:List Nat)(r:List (aj×List Nat))(K:Ex->St->Prop)(s:St):Prop:=iT T r {s with env:=da s.env k} K
def XP(T:dw)(b:Bool)(o:aj)(k:List Nat)(r:List (aj×List Nat))(s:St)(K:Ex->St->Prop):Prop:=iT T ((o,k)::r) s K
def MF(T:dw)(o:aj)(k:List Nat)(r:List (aj×List Nat))(s:St)(K:Ex->St->Prop):Prop:=iT T ((o,k)::r) s K
def KD(K:Ex->St->Prop)(x:DO)(s:St):Prop:=∃t v,s.ev x=some (.p (.iface t v))/\K (.panic (.iface t v)) {s with env:=[]}
def XV(K:Ex->St->Prop)(q:Option DV)(s:St):Prop:=∃t v,q=some (.p (.iface t v))/\K (.panic (.iface t v)) {s with env:=[]}
def KC(T:dw)(pre:List aj)(a:aj)(post:List aj)(b:List Nat)(e:St)(K:Ex->St->Prop)(s:St):Prop:=
 (cv T [a] s λd=>cv T pre {e with heap:=d.heap,next:=d.next} λg=>g.env=s.env/\cv T post d λf=>K .normal {f with env:=da f.env b})\/
  OT T a s λv H=>K (.panic v) {e with env:=[],heap:=H}
def GL(T:dw)(pre:List aj)(a:aj)(post:List aj)(b:List Nat)(d:St)(s:St)(K:Ex->St->Prop):Prop:=KC T pre a post b d K s
section
variable{T:dw}{s s':St}{K:Ex->St->Prop}{o:aj}{Q:St->Prop}{x y z c:aG}{R:DV->St->Prop}
def M3{a:List (aj×List Nat)}:W T (.aX a) s K=iT T a s K:=c9 Mu rfl
def WW:iT T [] s K=K .normal s:=c9 L9 rfl
def RN{k:List Nat}{r:List (aj×List Nat)}:iT T ((o,k)::r) s K=XP T o.op.isRef o k r s K:=rfl
def UU{k:List Nat}{r:List (aj×List Nat)}:XP T true o k r s K=MF T o k r s K:=rfl
def pw{k:List Nat}{r:List (aj×List Nat)}(h:cv T [o] s (KP T k r K)):XP T false o k r s K:=Gz h
def V2{k:List Nat}{r:List (aj×List Nat)}:cv T [] s (KP T k r K)=iT T r {s with env:=da s.env k} K:=by
 unfold cv KP;exact c9 rfl rfl
def ct{k:List Nat}{r:List (aj×List Nat)}{f:FuncId}{l:List DV}{v:DV}{H:Heap}{n:Nat}(a:Ev (gd o.guard s.env) (some true))(b:Ev (jt s o.op) (some (true,some (f,l))))(e:BS T f l s.heap s.next v H n)
  (d:Ev (jF s o.dst (v,H,n)) s')(h:iT T r {s' with env:=da s'.env k} K):MF T o k r s K:=by
 unfold Ev at a b d;exact Gz (DQ a b e d (by unfold cv;exact h))
def S1{k:List Nat}{r:List (aj×List Nat)}{f:FuncId}{l:List DV}{q:(DV×Heap×Nat)⊕(PV×Heap)}(a:Ev (oU s o) (some (f,l)))(b:CS T f l s.heap s.next q)
  (d:∀x,q=.inl x->iT T r {jF s o.dst x with env:=da (jF s o.dst x).env k} K)(e:∀v H,q=.inr (v,H)->K (.panic v) {s with env:=[],heap:=H}):MF T o k r s K:=by
 unfold Ev at a;exact V7 a b d e
def S5{b:List aj}{a:DO}:W T (.panic b a) s K=cv T b s (KD K a):=c9 SN rfl
def aaL{a:DO}:cv T [] s (KD K a)=XV K (s.ev a) s:=by
 unfold cv KD XV;exact c9 rfl rfl
def aav{t:Nat}{v:PV}:XV K (some (.p (.iface t v))) s=K (.panic (.iface t v)) {s with env:=[]}:=by
 unfold XV;apply propext;constructor
 .rintro⟨a,b,e,h⟩;cases e;exact h
 .exact λh=>⟨t,v,rfl,h⟩
def DR{a:Type}:∀l:List Nat,da ([]:List (Nat×a)) l=[]
 |[]=>rfl
 |i::r=>DR r
def Ns{pre:List aj}{a:aj}{post:List aj}{b:List Nat}:W T (.km pre a post b) s K=cv T pre s (KC T pre a post b s K):=by
 rw[Mt];unfold B8 KC;simp only[DR]
def VY{pre:List aj}{a:aj}{post:List aj}{b:List Nat}{d:St}:cv T [] s (KC T pre a post b d K)=GL T pre a post b d s K:=by
 unfold cv GL;exact c9 rfl rfl
def KR(T:dw)(s b:St)(post:List aj)(a:List Nat)(K:Ex->St->Prop)(d:St):Prop:=d.env=s.env/\cv T post b (RK K a)
def Wh{b:St}{post:List aj}{a:List Nat}{d:St}:cv T [] d (KR T s b post a K)=(d.env=s.env/\cv T post b (RK K a)):=by
 conv=>lhs;unfold cv
 unfold KR;rfl
def Kt{pre:List aj}{a:aj}{post:List aj}{d:List Nat}{g:St}{f:FuncId}{l:List DV}{q:(DV×Heap×Nat)⊕(PV×Heap)}(b:Ev (oU s a) (some (f,l)))(i:CS T f l s.heap s.next q)
  (k:∀x,q=.inl x->cv T pre {g with heap:=x.2.1,next:=x.2.2} (KR T s (jF s a.dst x) post d K))(m:∀v H,q=.inr (v,H)->K (.panic v) {g with env:=[],heap:=H}):GL T pre a post d g s K:=by
 unfold Ev at b;have e:gd a.guard s.env=some true/\jt s a.op=some (true,some (f,l)):=by
  unfold oU at b;split at b
  .rename_i t args e n;cases h:gH s args with
   |none=>rw[h]at b;cases b
   |some u=>
    rw[h]at b;simp only[ay,bY]at b;obtain⟨rfl,rfl⟩:=b;exact⟨e,by simp only[n,jt,h]⟩
  .cases b
 unfold GL KC;obtain⟨r,j,p⟩|⟨v,j⟩:=q
 .left;refine DQ e.1 e.2 i rfl ?_;have:=k _ rfl;unfold cv;unfold KR RK at this;exact this
 .right;exact⟨f,l,v,j,b,i,m _ _ rfl⟩
def WM{B:St->(Ex->St->Prop)->Prop}{a:List aj}{b:Nat}{hid:List Nat}:qZ T B a b hid [] s K=K .normal s:=c9 FB rfl
def Xj{a:List aj}{b:Nat}{hid:List Nat}{d:DV}{r:List DV}:qZ T (W T x) a b hid (d::r) s K=cv T a {s with env:=fI s.env b d,marks:=[]} (KF T x (FK T (W T x) a b hid r s.marks K)):=by
 conv=>lhs;unfold qZ
 unfold KF FK;rfl
def aaH{K:Ex->St->Prop}:cv T [] s (KF T x K)=W T x s K:=by
 unfold cv KF;exact c9 rfl rfl
def XH{B:St->(Ex->St->Prop)->Prop}{a:List aj}{b:Nat}{hid:List Nat}{r:List DV}{d:List Nat}:FK T B a b hid r d K .normal s=qZ T B a b hid r {s with env:=da s.env hid,marks:=d} K:=by
 unfold FK;rfl
def Sz{B:St->(Ex->St->Prop)->Prop}{a:List aj}{b:Nat}{hid:List Nat}{r:List DV}{d:List Nat}:FK T B a b hid r d K .ret s=K .ret {s with marks:=d}:=by
 unfold FK;rfl
def Yi{B:St->(Ex->St->Prop)->Prop}{a:List aj}{b:Nat}{hid:List Nat}{r:List DV}{d:List Nat}{v:PV}:FK T B a b hid r d K (.panic v) s=K (.panic v) {s with marks:=d}:=by
 unfold FK;rfl
def ZH{v:PV}:SK T c K (.panic v) s=K (.panic v) s:=c9 Pv rfl
def Yc{i:Nat}{v:PV}:BK i K (.panic v) s=K (.panic v) s:=c9 P7 rfl
def XL{I:Nat->St->Prop}{m i:Nat}:LI I m K (.exit i) s=K (.exit i) s:=c9 TZ rfl
def Yo{I:Nat->St->Prop}{m:Nat}:LI I m K .ret s=K .ret s:=c9 Xb rfl
def ZA{I:Nat->St->Prop}{m:Nat}{v:PV}:LI I m K (.panic v) s=K (.panic v) s:=c9 Qc rfl
def XK{v:PV}:LK T c K (.panic v) s=K (.panic v) s:=c9 P8 rfl
@[congr] theorem aae {q a:Option DV} (h:q=a):XV K q s=XV K a s:=by rw[h]
@[congr] theorem ZZ {b a:Bool} {k:List Nat} {r:List (aj×List Nat)} (h:b=a):XP T b o k r s K=XP T a o k r s K:=by rw[h]
@[congr] theorem V8 {l:List (aj×List Nat)} (h:s=s'):iT T l s K=iT T l s' K:=by rw[h]
@[congr] theorem Zd {k:List Nat} {r:List (aj×List Nat)} (h:s=s'):MF T o k r s K=MF T o k r s' K:=by rw[h]
@[congr] theorem YI {pre:List aj} {a:aj} {post:List aj} {b:List Nat} {d:St} (h:s=s'):GL T pre a post b d s K=GL T pre a post b d s' K:=by rw[h]
end
class Nb (b:Bool) (B P C N:outParam Prop):Prop where
 pos:b=true->B/\P
 neg:b=false->C/\N
instance(priority:=low) Nb.any{b:Bool}:Nb b (b=true) (b=true) (b=false) (b=false):=⟨λh=>⟨h,h⟩,λh=>⟨h,h⟩⟩
instance Nb.dec{p:Prop}[Decidable p]:Nb (decide p) (decide p=true) p (decide p=false) (¬p):=⟨λh=>⟨h,MN h⟩,λh=>⟨h,of_decide_eq_false h⟩⟩
instance(priority:=high) Nb.decNot{p:Prop}[Decidable p]:Nb (decide (¬p)) (decide (¬p)=true) (¬p) (decide (¬p)=false) p:=⟨λh=>⟨h,MN h⟩,λh=>⟨h,Decidable.of_not_not (of_decide_eq_false h)⟩⟩
instance Nb.beq{d:Type}[BEq d][LawfulBEq d]{a b:d}:Nb (a==b) ((a==b)=true) (a=b) ((a==b)=false) (¬a=b):=⟨λh=>⟨h,eq_of_beq h⟩,λh=>⟨h,ne_of_beq_false h⟩⟩
instance Nb.bne{d:Type}[BEq d][LawfulBEq d]{a b:d}:Nb (a !=b) ((a !=b)=true) (¬a=b) ((a !=b)=false) (a=b):=⟨λh=>⟨h,by simpa[bne]using h⟩,λh=>⟨h,by simpa[bne]using h⟩⟩
instance Nb.not{b:Bool}{B P C N:Prop}[i:Nb b B P C N]:Nb (!b) C N B P:=⟨λh=>i.neg (by simpa using h),λh=>i.pos (by simpa using h)⟩
section
variable{T:dw}{s s':St}{K:Ex->St->Prop}{o:aj}{r:List aj}{Q:St->Prop}{x y c:aG}
def aY{b:Bool}{B P C N:Prop}[i:Nb b B P C N](a:B->P->W T x s K)(d:C->N->W T y s K):XB T (some b) x y s K:=EX (λh=>a (i.pos h).1 (i.pos h).2) (λh=>d (i.neg h).1 (i.neg h).2)
def aQ{b:Bool}{B P C N:Prop}[i:Nb b B P C N](a:B->P->XD T o.op.nG o r s Q)(d:C->N->cv T r {s with env:=dF s.env o.dst (.tuple [])} Q):XQ T (some b) o r s Q:=EC (λh=>a (i.pos h).1 (i.pos h).2) (λh=>d (i.neg h).1 (i.neg h).2)
def cT{f:FuncId}{l:List DV}{a:List PV}{v:PV}{H:Heap}(b:Ev (jt s o.op) (some (false,some (f,l))))(d:Ev (bP (aS s.heap dep) l) (some a))(e:PS T f a v)
 (g:Ev (if v.plain then s.heap else dp s.heap (l.flatMap (fg s.heap dep))) H)(i:Ev (jF s o.dst (aI v,H,s.next)) s')(h:cv T r s' Q):XC T o r s Q:=Il b d e g i h
def nf{f:FuncId}{l:List DV}{v:DV}{H:Heap}{n:Nat}(a:Ev (jt s o.op) (some (true,some (f,l))))(b:BS T f l s.heap s.next v H n)
 (d:Ev (jF s o.dst (v,H,n)) s')(h:cv T r s' Q):G2 T o r s Q:=Ux a b d h
def Yq{k:Nat}{x:dX}:(aj.o k x).dst=some k:=c9 rfl rfl
def aaz{k:Nat}{x:dX}:(aj.o k x).op=x:=c9 rfl rfl
def TL{k:Nat}{x:dX}:(aj.o k x).guard=none:=c9 rfl rfl
def Y6{x:dX}:(aj.u x).dst=none:=c9 rfl rfl
def aaN{x:dX}:(aj.u x).op=x:=c9 rfl rfl
def Vu{x:dX}:(aj.u x).guard=none:=c9 rfl rfl
def ZV{k j:Nat}{b:Bool}{x:dX}{l:List Nat}:(aj.g k j b x l).dst=some k:=c9 rfl rfl
def aah{k j:Nat}{b:Bool}{x:dX}{l:List Nat}:(aj.g k j b x l).op=x:=c9 rfl rfl
def U5{k j:Nat}{b:Bool}{x:dX}{l:List Nat}:(aj.g k j b x l).guard=some (j,b):=c9 rfl rfl
end
section
variable{T:dw}{s s':St}{K:Ex->St->Prop}{o:aj}{r:List aj}{Q:St->Prop}{x y c:aG}{R:DV->St->Prop}
@[congr] theorem Z7 {b a:Option Bool} (h:b=a):XB T b x y s K=XB T a x y s K:=by rw[h]
@[congr] theorem aaa {q a:Option St} (h:q=a):XG T q c K=XG T a c K:=by rw[h]
@[congr] theorem Z0 (h:s=s'):XC T o r s Q=XC T o r s' Q:=by rw[h]
@[congr] theorem Y4 (h:s=s'):G2 T o r s Q=G2 T o r s' Q:=by rw[h]
@[congr] theorem Z4 {b a:Bool} (h:b=a):XE T b o r s Q=XE T a o r s Q:=by rw[h]
@[congr] theorem aab {q a:Option (DV×Heap×Nat)} (h:q=a):XO T q o r s Q=XO T a o r s Q:=by rw[h]
@[congr] theorem aac {b a:Bool} (h:b=a):XD T b o r s Q=XD T a o r s Q:=by rw[h]
@[congr] theorem Z1 {b a:Option Bool} (h:b=a):XQ T b o r s Q=XQ T a o r s Q:=by rw[h]
@[congr] theorem Z9 {q a:Option DV} (h:q=a):XR q R s=XR a R s:=by rw[h]
end
attribute [irreducible] V5 KP XP MF KD XV KC GL KR KF RK WY KK KN XB XG XC G2 XE XO XD XQ XR Ev
attribute [go_sem↓] NP Wm Wo XL Yo ZA M3 WW RN UU S5 Ns Sz Yi ZH Yc XK Wu Za WT Y7 yZ W8 I5 Pk MP LY Wv SW ZW ZT YV Yr ZE Ix Fx IV FW Tv Gg T9 Q5
attribute [go_sem] Yq aaz TL Y6 aaN Vu ZV aah U5 DO.i DO.b Yv V1 V3 Wy V2 aaL aav VY Wh WM aaH XH ju ue storeAt eo il sI uR zv oY DV.flat dX.nG dX.isRef Lq UO R4 aaw aaD YD VU Sw
end
end Go.Dv
