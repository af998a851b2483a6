/-
  The law of this name of the given program returns true for every input whose bulk is at most 1048576, where the listed tables hold what start-up lays; no run of it panics or goes on for ever: Rows.TopPlansUptoCardSaid, the given statement. No condition but the statement itself.
-/
import Derived.Test.YtcphhjkcgikdgaaGreatDoorCards
import Derived.Test.YtcphhjkcgikdgaaGreatDoorTie
import Derived.Test.YtcphhjkcgikdgaaGreatDoorP18
import Derived.Test.YtcphhjkcgikdgaaGreatDoorP43
import Derived.Test.YtcphhjkcgikdgaaGreatDoorP47
import Derived.WalkKit
import Derived.ProofKit
import Derived.OpenShut
import Derived.ShutString
import Derived.ChangeOld
import Derived.Below
import Derived.Carry
import Derived.JoinedCond
import Derived.Deep.DeepHandedRow
import Derived.Lib.LaidTab
import Derived.Stop.LaidErr
set_option linter.all false
namespace Go.Proofs.YtcphhjkcgikdgaaGreatDoor.topPlans
open Go.ChangeShapes Go.WideShapes Go.ChangeAt Go.RowKit Go.Dv
theorem own:ownKnob Tryz.prog.godebug=none:=by kernel_rfl
theorem laidOut:laidOutB Tryz.prog=true:=by kernel_rfl
theorem sh0:qv Tryz.prog 6 22=some [.slice [.str,.slice [.str,.int .i64],.rows 90]]:=by kernel_rfl
theorem sh1:qv Tryz.prog 6 23=some [.slice [.str,.int .i64,.int .i64,.str]]:=by kernel_rfl
theorem sh2:qv Tryz.prog 6 24=some [.slice [.int .i64,.str,.slice [.int .i64,.int .i64,.str],.bool,.slice [.str],.slice [.str],.int .i64]]:=by kernel_rfl
theorem Md:Hd Tryz.prog:=by
 intro t l h;unfold th at h;split at h
 ·cases h;exact⟨⟨6,by kernel_rfl⟩,by kernel_rfl,by decide⟩
 ·cases h;exact⟨⟨6,by kernel_rfl⟩,by kernel_rfl,by decide⟩
 ·cases h
theorem Xx:Tryz.prog.globalNamed "internal/strconv.uint64pow10" =some 1:=by kernel_rfl
theorem OD:(Tryz.prog.globals[1]?).map (·.type)=some 325:=by kernel_rfl
theorem Ws:Tryz.prog.cellsOf 325=20:=by kernel_rfl
theorem V8:Tryz.prog.cellsOf 221=1:=by kernel_rfl
theorem table{W:World}(h:laidMetH Tryz.prog Rows.topPlansUptoRow.laid W):Lib.TabIs Tryz.prog W "internal/strconv.uint64pow10" .u64 Lib.pow10Tab:=
 Lib.tabIs_of_head (rest:=[]) Xx OD Tryz.underlying325 Tryz.underlying221 V8 Ws (laidMet.tail (laidMet.tail h))
theorem WW{W:World}(h:laidMetH Tryz.prog Rows.topPlansUptoRow.laid W):lK W.heap.size W:=by
 have hv:=table h;unfold Lib.TabIs World.var? at hv;rw[Xx,Option.bind_some]at hv;intro t ht;simp only[Nx,List.mem_singleton]at ht;subst ht;cases hb:W.heap[1]? with
 |none=>rw[hb]at hv;cases hv
 |some o=>
  rw[hb]at hv;cases o with
  |cells cs T fz=>
   simp only[Option.some.injEq]at hv;refine⟨?_,T,fz,by rw[hv]⟩;rcases Nat.lt_or_ge 1 W.heap.size with h'|h'
   ·exact h'
   ·simp[Array.getElem?_eq_none h']at hb
  |_=>cases hv
def aY(H:Type):Go.Dv.QL H where
 bk:=Rows.uptoBulk
 all:=Rows.uptoBulkAll
 one:=fun d=>by
  cases d with
  |lit l=>cases l<;>simp[Rows.uptoBulk]
  |_=>simp[Rows.uptoBulk]
 str:=fun b=>by simp[Rows.uptoBulk]
 slice:=fun e s=>by simp only[Rows.uptoBulk];omega
 agg:=fun p=>by simp only[Rows.uptoBulk];omega
 cons:=fun d r=>by simp only[Rows.uptoBulkAll]
set_option maxRecDepth 100000 in
theorem Qa(H:Type)(enc:TypeId×Value->H)(W:World)(base:Nat)(args:Array Value)(ds gs:List (DataW H))(before:List MemPlace)
  (hval0:∀(j:Nat) t v,Tryz.f4.params[j]?=some t->args[j]?=some v->Value.okWide Tryz.prog W .any base t v)
  (hW:DataW.Whole enc Tryz.prog Tryz.f4.params.toList Rows.topPlansSpec.vars false W args.toList ds gs before)(hk:Rows.uptoSmall H (ds++gs)=true)(hL:laidMetH Tryz.prog Rows.topPlansUptoRow.laid W):
  Calls Tryz.prog 4 args W fun e W'=>∃v,e=.returned v/\Rows.topPlansSpec.post enc Tryz.prog Tryz.f4 false true false false W args v W':=by
 have hval:∀(j:Nat) t v,Tryz.f4.params[j]?=some t->args[j]?=some v->Value.okWide Tryz.prog W .any base t v:=hval0;have hW':=hW;obtain⟨p,q,hA0,hV,rfl,hfz,hnd⟩:=hW;have hA:DataW.TrodAll enc Tryz.prog W 0 (fun _=>true) true Tryz.f4.params.toList args.toList ds p:=hA0;rw[Tryz.params4]at hA hval;obtain⟨v0,vs0,d0,ds0,p0,q0,hargs,rfl,rfl,h0,r0⟩:=trodAll_cons hA;obtain⟨v1,vs1,d1,ds1,p1,q1,rfl,rfl,rfl,h1,r1⟩:=trodAll_cons r0;obtain⟨v2,vs2,d2,ds2,p2,q2,rfl,rfl,rfl,h2,r2⟩:=trodAll_cons r1;obtain⟨rfl,rfl,rfl⟩:=trodAll_nil r2;obtain rfl:args=#[v0,v1,v2]:=by cases args;simp_all
 obtain⟨rfl,rfl⟩:=trodVars_none hV;have lt0:∀x∈p0,x.block<W.heap.size:=by obtain⟨m,hm⟩:=h0;exact DataW.trod_lt m _ _ _ hm
 obtain⟨u0,w0,e0,z0⟩:=uk (aY H) Md Tryz.underlying22 sh0 (hval 0 22 v0 rfl rfl) h0;have lt1:∀x∈p1,x.block<W.heap.size:=by obtain⟨m,hm⟩:=h1;exact DataW.trod_lt m _ _ _ hm
 obtain⟨u1,w1,e1,z1⟩:=uk (aY H) Md Tryz.underlying23 sh1 (hval 1 23 v1 rfl rfl) h1;have lt2:∀x∈p2,x.block<W.heap.size:=by obtain⟨m,hm⟩:=h2;exact DataW.trod_lt m _ _ _ hm
 obtain⟨u2,w2,e2,z2⟩:=uk (aY H) Md Tryz.underlying24 sh2 (hval 2 24 v2 rfl rfl) h2;simp only[Rows.uptoSmall,Rows.uptoBulkAll,List.append_nil,List.nil_append,List.cons_append,decide_eq_true_eq]at hk;have y0:dK u0<=1048576:=Nat.le_trans z0 (by show Rows.uptoBulk d0<=_;omega);have y1:dK u1<=1048576:=Nat.le_trans z1 (by show Rows.uptoBulk d1<=_;omega);have y2:dK u2<=1048576:=Nat.le_trans z2 (by show Rows.uptoBulk d2<=_;omega);clear hA0 hval0;have hp:=(Go.Dv.Tryz.calls Go.Dv.Tryz.natives (Go.Dv.Tryz.walkTopPlans w0 w1 w2 y0 y1 y2)).law W (WW hL) (vs:=#[v0,v1,v2]) rfl (fun j p hj=>by
  match j,hj with
  |0,hj=>simp at hj;subst hj;exact e0
  |1,hj=>simp at hj;subst hj;exact e1
  |2,hj=>simp at hj;subst hj;exact e2
  |j+3,hj=>simp at hj)
 refine hp.mono fun e W' ⟨he,bel0⟩=>?_
 have bel:Go.RowKit.Below W.heap.size W W':=bel0.toBelow;subst he;exact⟨_,rfl,_,_,_,[],_,[],hW',trodAll_mk1 (shut_bool Tryz.underlying4 _),(trodAll_cons_mk (Below.trod laidOut (by kernel_rfl) (of_decide_eq_true (by kernel_rfl)) h0 bel lt0) (trodAll_cons_mk (Below.trod laidOut (by kernel_rfl) (of_decide_eq_true (by kernel_rfl)) h1 bel lt1) (trodAll_cons_mk (Below.trod laidOut (by kernel_rfl) (of_decide_eq_true (by kernel_rfl)) h2 bel lt2) trodAll_mk0))),rfl,bel.frame _,fun h=>by cases h⟩
def WB:DataW Unit->Array Value
 | .agg ps=>(ps.map fun
  | .lit (.int k z)=>Value.int k z
  |_=>.bool false).toArray
 |_=>#[]
def TW(g:Nat)(d:DataW Unit)(w:World):World:={w with heap:=w.heap.modify g fun
 | .cells _ t frozen=>.cells (WB d) t frozen
 |o=>o}
noncomputable def vK (os:Os):World:=
 TW 1 Rows.laid_internal_strconv_uint64pow10 (TW 2 Rows.laid_math_bits_deBruijn32tab (TW 3 Rows.laid_math_bits_deBruijn64tab (World.holding Tryz.prog os ⟨#[],#[],[]⟩)))
theorem OY(os:Os):laidMet Tryz.prog Rows.topPlansUptoRow.laid ((vK os).forCall (fun _ _=>0) ⟨#[],#[.slice none 0 0,.slice none 0 0,.slice none 0 0],[]⟩).memory:=
 laidMet_of_run' 8 (by kernel_rfl) (by kernel_rfl)
theorem reads(os:Os){H:Type}(enc:TypeId×Value->H):∃places,DataW.whole enc Tryz.prog ((vK os).forCall (fun _ _=>0) ⟨#[],#[.slice none 0 0,.slice none 0 0,.slice none 0 0],[]⟩).memory Tryz.f4.params.toList Rows.topPlansSpec.vars false (#[.slice none 0 0,.slice none 0 0,.slice none 0 0]:Array Value).toList 8=some ([.nil,.nil,.nil],[],places):=
 ⟨[],by kernel_rfl⟩
set_option maxRecDepth 100000 in
theorem lifted(os:Os)(started:os.Started)(H:Type)(enc:TypeId×Value->H)(F:Stop.Interp):
  ReturnsInHanded {} Tryz.checked os 4 .any ((Rows.OpenSpec.upto Rows.topPlansSpec).preRow enc Tryz.prog Tryz.f4 Rows.topPlansUptoRow.domain false Rows.topPlansUptoRow.laid) (((Rows.OpenSpec.upto Rows.topPlansSpec).at F).post enc Tryz.prog Tryz.f4 false true false false):=by
 obtain⟨places,hx⟩:=reads os enc;refine returnsInHanded_of_row (C:=Tryz.checked) (s:=Rows.OpenSpec.upto Rows.topPlansSpec) own started (by kernel_rfl) Tryz.func4
  (witness_row_at (enc:=enc) (C:=Tryz.checked) false (vK os) #[.slice none 0 0,.slice none 0 0,.slice none 0 0] rfl (by kernel_rfl) (by kernel_rfl) (by kernel_rfl)
   (OpenSpec.preRow_of_cond 8 hx (by kernel_rfl) (fun k hk=>by cases hk;kernel_rfl) (by kernel_rfl) (OY os))) ?_
 intro W base args ds gs before hval hW _ hcond _ hL _ _;exact Qa H enc W base args ds gs before hval hW (hcond _ rfl) hL
theorem closed:joinedFacts Tryz.prog 4 Tryz.f4 (Rows.OpenSpec.upto Rows.topPlansSpec).bare Rows.topPlansUptoRow=true:=Qi mayEnter liftsFinal make rfl rfl (by kernel_rfl)
theorem over:Rows.TopPlansUptoSaid:=
 OpenClaim.holds_of_cond 4 Tryz.f4 rfl rfl rfl rfl rfl rfl rfl ⟨rfl,rfl,rfl,rfl,rfl⟩ rfl rfl rfl rfl rfl (by kernel_rfl) Tryz.func4 closed
  (of_decide_eq_true (by kernel_rfl)) (by unfold Func.isWrapper;first|(rw[if_pos (by decide+kernel)];kernel_rfl)|(rw[if_neg (by decide+kernel)];exact⟨rfl,rfl⟩))
  (fun os started H enc _ F=>by rw[OpenClaim.pre_eq_preRow];exact lifted os started H enc F)
theorem plain(f:FuncId)(fn:Func)(hf:Tryz.pinned.checked.prog.funcNamed "clockwork/clockworktop.TopPlans" =some f)(hfn:Tryz.pinned.checked.prog.funcs[f]?=some fn):
  true=Tryz.pinned.checked.prog.looks []/\∀(j:Nat) t,fn.params[j]?=some t->Tryz.pinned.checked.prog.wantsStandIn t=false:=by
 obtain rfl:f=4:=Option.some.inj ((show Tryz.prog.funcNamed "clockwork/clockworktop.TopPlans" =some 4 by kernel_rfl).symm.trans hf)|>.symm
 obtain rfl:fn=Tryz.f4:=(Option.some.inj (Tryz.func4.symm.trans hfn)).symm;refine⟨by kernel_rfl,fun j t ht=>?_⟩;rw[Tryz.params4]at ht;have hm:=Array.mem_of_getElem? ht;simp only[List.mem_toArray,List.mem_cons,List.not_mem_nil,or_false]at hm;rcases hm with rfl|rfl|rfl
 ·exact(show Tryz.prog.wantsStandIn 22=false by kernel_rfl)
 ·exact(show Tryz.prog.wantsStandIn 23=false by kernel_rfl)
 ·exact(show Tryz.prog.wantsStandIn 24=false by kernel_rfl)
theorem proved:Rows.TopPlansUptoCardSaid:=
 Claim7.holds_tied_plain_at .later [] _ _ _ _ over (fun _ h=>by cases h) (by kernel_rfl) (fun _ h=>by cases h) topPlansUpto_row_tie rfl ⟨rfl,rfl⟩ (by kernel_rfl) rfl plain (by kernel_rfl)
end Go.Proofs.YtcphhjkcgikdgaaGreatDoor.topPlans
