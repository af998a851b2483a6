/-
  The law of this name of the given program returns true for every input whose bulk is at most 1048576, where the listed tables hold what start-up lays; no run of it panics or goes on for ever: Rows.TopEnginesUptoCardSaid, the given statement. No condition but the statement itself.
-/
import Derived.Test.YtcphhjkcgikdgaaGreatDoorCards
import Derived.Test.YtcphhjkcgikdgaaGreatDoorTie
import Derived.Test.YtcphhjkcgikdgaaGreatDoorP18
import Derived.Test.YtcphhjkcgikdgaaGreatDoorP44
import Derived.Test.YtcphhjkcgikdgaaGreatDoorP47
import Derived.WalkKit
import Derived.ProofKit
import Derived.OpenShut
import Derived.ShutString
import Derived.ChangeOld
import Derived.Below
import Derived.Carry
import Derived.JoinedCond
import Derived.Deep.DeepHandedRow
import Derived.Lib.LaidTab
import Derived.Stop.LaidErr
set_option linter.all false
namespace Go.Proofs.YtcphhjkcgikdgaaGreatDoor.topEngines
open Go.ChangeShapes Go.WideShapes Go.ChangeAt Go.RowKit Go.Dv
theorem own:ownKnob Tryz.prog.godebug=none:=by kernel_rfl
theorem laidOut:laidOutB Tryz.prog=true:=by kernel_rfl
theorem sh0:o6 Tryz.prog 6 22=some [.slice [.str,.slice [.str,.int .i64],.rows 90]]:=by kernel_rfl
theorem sh1:o6 Tryz.prog 6 23=some [.slice [.str,.int .i64,.int .i64,.str]]:=by kernel_rfl
theorem sh2:o6 Tryz.prog 6 24=some [.slice [.int .i64,.str,.slice [.int .i64,.int .i64,.str],.bool,.slice [.str],.slice [.str],.int .i64]]:=by kernel_rfl
theorem sh3:o6 Tryz.prog 6 25=some [.slice [.int .i64]]:=by kernel_rfl
theorem sh4:o6 Tryz.prog 6 25=some [.slice [.int .i64]]:=by kernel_rfl
theorem EE:Ir Tryz.prog:=by
 intro t l h;unfold uw at h;split at h
 ·cases h;exact⟨⟨6,by kernel_rfl⟩,by kernel_rfl,by decide⟩
 ·cases h;exact⟨⟨6,by kernel_rfl⟩,by kernel_rfl,by decide⟩
 ·cases h
theorem Xy:Tryz.prog.globalNamed "internal/strconv.uint64pow10" =some 1:=by kernel_rfl
theorem PD:(Tryz.prog.globals[1]?).map (·.type)=some 325:=by kernel_rfl
theorem WV:Tryz.prog.cellsOf 325=20:=by kernel_rfl
theorem Xl:Tryz.prog.cellsOf 221=1:=by kernel_rfl
theorem table{W:World}(h:laidMetH Tryz.prog Rows.topEnginesUptoRow.laid W):Lib.TabIs Tryz.prog W "internal/strconv.uint64pow10" .u64 Lib.pow10Tab:=
 Lib.tabIs_of_head (rest:=[]) Xy PD Tryz.underlying325 Tryz.underlying221 Xl WV (laidMet.tail (laidMet.tail h))
theorem Wp{W:World}(h:laidMetH Tryz.prog Rows.topEnginesUptoRow.laid W):mh W.heap.size W:=by
 have hv:=table h;unfold Lib.TabIs World.var? at hv;rw[Xy,Option.bind_some]at hv;intro t ht;simp only[OZ,List.mem_singleton]at ht;subst ht;cases hb:W.heap[1]? with
 |none=>rw[hb]at hv;cases hv
 |some o=>
  rw[hb]at hv;cases o with
  |cells cs T fz=>
   simp only[Option.some.injEq]at hv;refine⟨?_,T,fz,by rw[hv]⟩;rcases Nat.lt_or_ge 1 W.heap.size with h'|h'
   ·exact h'
   ·simp[Array.getElem?_eq_none h']at hb
  |_=>cases hv
def aZ(H:Type):Go.Dv.RP H where
 bk:=Rows.uptoBulk
 all:=Rows.uptoBulkAll
 one:=fun d=>by
  cases d with
  |lit l=>cases l<;>simp[Rows.uptoBulk]
  |_=>simp[Rows.uptoBulk]
 str:=fun b=>by simp[Rows.uptoBulk]
 slice:=fun e s=>by simp only[Rows.uptoBulk];omega
 agg:=fun p=>by simp only[Rows.uptoBulk];omega
 cons:=fun d r=>by simp only[Rows.uptoBulkAll]
set_option maxRecDepth 100000 in
theorem PW(H:Type)(enc:TypeId×Value->H)(W:World)(base:Nat)(args:Array Value)(ds gs:List (DataW H))(before:List MemPlace)
  (hval0:∀(j:Nat) t v,Tryz.f3.params[j]?=some t->args[j]?=some v->Value.okWide Tryz.prog W .any base t v)
  (hW:DataW.Whole enc Tryz.prog Tryz.f3.params.toList Rows.topEnginesSpec.vars false W args.toList ds gs before)(hk:Rows.uptoSmall H (ds++gs)=true)(hL:laidMetH Tryz.prog Rows.topEnginesUptoRow.laid W):
  Calls Tryz.prog 3 args W fun e W'=>∃v,e=.returned v/\Rows.topEnginesSpec.post enc Tryz.prog Tryz.f3 false true false false W args v W':=by
 have hval:∀(j:Nat) t v,Tryz.f3.params[j]?=some t->args[j]?=some v->Value.okWide Tryz.prog W .any base t v:=hval0;have hW':=hW;obtain⟨p,q,hA0,hV,rfl,hfz,hnd⟩:=hW;have hA:DataW.TrodAll enc Tryz.prog W 0 (fun _=>true) true Tryz.f3.params.toList args.toList ds p:=hA0;rw[Tryz.params3]at hA hval;obtain⟨v0,vs0,d0,ds0,p0,q0,hargs,rfl,rfl,h0,r0⟩:=trodAll_cons hA;obtain⟨v1,vs1,d1,ds1,p1,q1,rfl,rfl,rfl,h1,r1⟩:=trodAll_cons r0;obtain⟨v2,vs2,d2,ds2,p2,q2,rfl,rfl,rfl,h2,r2⟩:=trodAll_cons r1;obtain⟨v3,vs3,d3,ds3,p3,q3,rfl,rfl,rfl,h3,r3⟩:=trodAll_cons r2;obtain⟨v4,vs4,d4,ds4,p4,q4,rfl,rfl,rfl,h4,r4⟩:=trodAll_cons r3;obtain⟨rfl,rfl,rfl⟩:=trodAll_nil r4;obtain rfl:args=#[v0,v1,v2,v3,v4]:=by cases args;simp_all
 obtain⟨rfl,rfl⟩:=trodVars_none hV;have lt0:∀x∈p0,x.block<W.heap.size:=by obtain⟨m,hm⟩:=h0;exact DataW.trod_lt m _ _ _ hm
 obtain⟨u0,w0,e0,z0⟩:=oL (aZ H) EE Tryz.underlying22 sh0 (hval 0 22 v0 rfl rfl) h0;have lt1:∀x∈p1,x.block<W.heap.size:=by obtain⟨m,hm⟩:=h1;exact DataW.trod_lt m _ _ _ hm
 obtain⟨u1,w1,e1,z1⟩:=oL (aZ H) EE Tryz.underlying23 sh1 (hval 1 23 v1 rfl rfl) h1;have lt2:∀x∈p2,x.block<W.heap.size:=by obtain⟨m,hm⟩:=h2;exact DataW.trod_lt m _ _ _ hm
 obtain⟨u2,w2,e2,z2⟩:=oL (aZ H) EE Tryz.underlying24 sh2 (hval 2 24 v2 rfl rfl) h2;have lt3:∀x∈p3,x.block<W.heap.size:=by obtain⟨m,hm⟩:=h3;exact DataW.trod_lt m _ _ _ hm
 obtain⟨u3,w3,e3,z3⟩:=oL (aZ H) EE Tryz.underlying25 sh3 (hval 3 25 v3 rfl rfl) h3;have lt4:∀x∈p4,x.block<W.heap.size:=by obtain⟨m,hm⟩:=h4;exact DataW.trod_lt m _ _ _ hm
 obtain⟨u4,w4,e4,z4⟩:=oL (aZ H) EE Tryz.underlying25 sh4 (hval 4 25 v4 rfl rfl) h4;simp only[Rows.uptoSmall,Rows.uptoBulkAll,List.append_nil,List.nil_append,List.cons_append,decide_eq_true_eq]at hk;have y0:dG u0<=1048576:=Nat.le_trans z0 (by show Rows.uptoBulk d0<=_;omega);have y1:dG u1<=1048576:=Nat.le_trans z1 (by show Rows.uptoBulk d1<=_;omega);have y2:dG u2<=1048576:=Nat.le_trans z2 (by show Rows.uptoBulk d2<=_;omega);have y3:dG u3<=1048576:=Nat.le_trans z3 (by show Rows.uptoBulk d3<=_;omega);have y4:dG u4<=1048576:=Nat.le_trans z4 (by show Rows.uptoBulk d4<=_;omega);clear hA0 hval0;have hp:=(Go.Dv.Tryz.calls Go.Dv.Tryz.natives (Go.Dv.Tryz.walkTopEngines w0 w1 w2 w3 w4 y0 y1 y2 y3 y4)).law W (Wp hL) (vs:=#[v0,v1,v2,v3,v4]) rfl (fun j p hj=>by
  match j,hj with
  |0,hj=>simp at hj;subst hj;exact e0
  |1,hj=>simp at hj;subst hj;exact e1
  |2,hj=>simp at hj;subst hj;exact e2
  |3,hj=>simp at hj;subst hj;exact e3
  |4,hj=>simp at hj;subst hj;exact e4
  |j+5,hj=>simp at hj)
 refine hp.mono fun e W' ⟨he,bel0⟩=>?_
 have zQ:Go.RowKit.Below W.heap.size W W':=bel0.toBelow;subst he;exact⟨_,rfl,_,_,_,[],_,[],hW',trodAll_mk1 (shut_bool Tryz.underlying4 _),(trodAll_cons_mk (Below.trod laidOut (by kernel_rfl) (of_decide_eq_true (by kernel_rfl)) h0 zQ lt0) (trodAll_cons_mk (Below.trod laidOut (by kernel_rfl) (of_decide_eq_true (by kernel_rfl)) h1 zQ lt1) (trodAll_cons_mk (Below.trod laidOut (by kernel_rfl) (of_decide_eq_true (by kernel_rfl)) h2 zQ lt2) (trodAll_cons_mk (Below.trod laidOut (by kernel_rfl) (of_decide_eq_true (by kernel_rfl)) h3 zQ lt3) (trodAll_cons_mk (Below.trod laidOut (by kernel_rfl) (of_decide_eq_true (by kernel_rfl)) h4 zQ lt4) trodAll_mk0))))),rfl,zQ.frame _,fun h=>by cases h⟩
def Xo:DataW Unit->Array Value
 | .agg ps=>(ps.map fun
  | .lit (.int k z)=>Value.int k z
  |_=>.bool false).toArray
 |_=>#[]
def Vg(g:Nat)(d:DataW Unit)(w:World):World:={w with heap:=w.heap.modify g fun
 | .cells _ t frozen=>.cells (Xo d) t frozen
 |o=>o}
noncomputable def wU (os:Os):World:=
 Vg 1 Rows.laid_internal_strconv_uint64pow10 (Vg 2 Rows.laid_math_bits_deBruijn32tab (Vg 3 Rows.laid_math_bits_deBruijn64tab (World.holding Tryz.prog os ⟨#[],#[],[]⟩)))
theorem Qk(os:Os):laidMet Tryz.prog Rows.topEnginesUptoRow.laid ((wU os).forCall (fun _ _=>0) ⟨#[],#[.slice none 0 0,.slice none 0 0,.slice none 0 0,.slice none 0 0,.slice none 0 0],[]⟩).memory:=
 laidMet_of_run' 8 (by kernel_rfl) (by kernel_rfl)
theorem reads(os:Os){H:Type}(enc:TypeId×Value->H):∃places,DataW.whole enc Tryz.prog ((wU os).forCall (fun _ _=>0) ⟨#[],#[.slice none 0 0,.slice none 0 0,.slice none 0 0,.slice none 0 0,.slice none 0 0],[]⟩).memory Tryz.f3.params.toList Rows.topEnginesSpec.vars false (#[.slice none 0 0,.slice none 0 0,.slice none 0 0,.slice none 0 0,.slice none 0 0]:Array Value).toList 8=some ([.nil,.nil,.nil,.nil,.nil],[],places):=
 ⟨[],by kernel_rfl⟩
set_option maxRecDepth 100000 in
theorem lifted(os:Os)(started:os.Started)(H:Type)(enc:TypeId×Value->H)(F:Stop.Interp):
  ReturnsInHanded {} Tryz.checked os 3 .any ((Rows.OpenSpec.upto Rows.topEnginesSpec).preRow enc Tryz.prog Tryz.f3 Rows.topEnginesUptoRow.domain false Rows.topEnginesUptoRow.laid) (((Rows.OpenSpec.upto Rows.topEnginesSpec).at F).post enc Tryz.prog Tryz.f3 false true false false):=by
 obtain⟨places,hx⟩:=reads os enc;refine returnsInHanded_of_row (C:=Tryz.checked) (s:=Rows.OpenSpec.upto Rows.topEnginesSpec) own started (by kernel_rfl) Tryz.func3
  (witness_row_at (enc:=enc) (C:=Tryz.checked) false (wU os) #[.slice none 0 0,.slice none 0 0,.slice none 0 0,.slice none 0 0,.slice none 0 0] rfl (by kernel_rfl) (by kernel_rfl) (by kernel_rfl)
   (OpenSpec.preRow_of_cond 8 hx (by kernel_rfl) (fun k hk=>by cases hk;kernel_rfl) (by kernel_rfl) (Qk os))) ?_
 intro W base args ds gs before hval hW _ hcond _ hL _ _;exact PW H enc W base args ds gs before hval hW (hcond _ rfl) hL
theorem closed:joinedFacts Tryz.prog 3 Tryz.f3 (Rows.OpenSpec.upto Rows.topEnginesSpec).bare Rows.topEnginesUptoRow=true:=Rm mayEnter liftsFinal make rfl rfl (by kernel_rfl)
theorem over:Rows.TopEnginesUptoSaid:=
 OpenClaim.holds_of_cond 3 Tryz.f3 rfl rfl rfl rfl rfl rfl rfl ⟨rfl,rfl,rfl,rfl,rfl⟩ rfl rfl rfl rfl rfl (by kernel_rfl) Tryz.func3 closed
  (of_decide_eq_true (by kernel_rfl)) (by unfold Func.isWrapper;first|(rw[if_pos (by decide+kernel)];kernel_rfl)|(rw[if_neg (by decide+kernel)];exact⟨rfl,rfl⟩))
  (fun os started H enc _ F=>by rw[OpenClaim.pre_eq_preRow];exact lifted os started H enc F)
theorem plain(f:FuncId)(fn:Func)(hf:Tryz.pinned.checked.prog.funcNamed "clockwork/clockworktop.TopEngines" =some f)(hfn:Tryz.pinned.checked.prog.funcs[f]?=some fn):
  true=Tryz.pinned.checked.prog.looks []/\∀(j:Nat) t,fn.params[j]?=some t->Tryz.pinned.checked.prog.wantsStandIn t=false:=by
 obtain rfl:f=3:=Option.some.inj ((show Tryz.prog.funcNamed "clockwork/clockworktop.TopEngines" =some 3 by kernel_rfl).symm.trans hf)|>.symm
 obtain rfl:fn=Tryz.f3:=(Option.some.inj (Tryz.func3.symm.trans hfn)).symm;refine⟨by kernel_rfl,fun j t ht=>?_⟩;rw[Tryz.params3]at ht;have hm:=Array.mem_of_getElem? ht;simp only[List.mem_toArray,List.mem_cons,List.not_mem_nil,or_false]at hm;rcases hm with rfl|rfl|rfl|rfl|rfl
 ·exact(show Tryz.prog.wantsStandIn 22=false by kernel_rfl)
 ·exact(show Tryz.prog.wantsStandIn 23=false by kernel_rfl)
 ·exact(show Tryz.prog.wantsStandIn 24=false by kernel_rfl)
 ·exact(show Tryz.prog.wantsStandIn 25=false by kernel_rfl)
 ·exact(show Tryz.prog.wantsStandIn 25=false by kernel_rfl)
theorem proved:Rows.TopEnginesUptoCardSaid:=
 Claim7.holds_tied_plain_at .later [] _ _ _ _ over (fun _ h=>by cases h) (by kernel_rfl) (fun _ h=>by cases h) topEnginesUpto_row_tie rfl ⟨rfl,rfl⟩ (by kernel_rfl) rfl plain (by kernel_rfl)
end Go.Proofs.YtcphhjkcgikdgaaGreatDoor.topEngines
