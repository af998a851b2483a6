/-
  The law of this name of the given program returns true for every input, and no run of it panics or goes on for ever: Rows.LocktableProgressSaid, the given statement. No condition but the statement itself.
-/
import Derived.Test.YtkpadkncediliaaRows
import Derived.Test.YtkpadkncediliaaBridge
import Derived.Test.YtkpadkncediliaaStart
import Derived.Test.YtkpadkncediliaaTab
import Derived.Test.YtkpadkncediliaaLE
import Derived.WalkKit
import Derived.ProofKit
import Derived.OpenShut
import Derived.ShutString
import Derived.ChangeOld
import Derived.Below
import Derived.Carry
namespace Go.Proofs.Ytkpadkncediliaa.locktableProgress
open Go.ChangeShapes Go.WideShapes Go.ChangeAt Go.RowKit Go.Dv
set_option linter.unusedVariables false

theorem own : ownKnob Try.prog.godebug = none := by kernel_rfl
theorem laidOut : laidOutB Try.prog = true := by kernel_rfl

theorem sh0 : shOf Try.prog 6 25 = some [.slice [.int .i64, .bool], .slice [.str, .slice [.int .i64, .bool]]] := by kernel_rfl

set_option maxRecDepth 100000 in
theorem lifted (os : Os) (started : os.Started) (H : Type) (enc : TypeId × Value → H) :
    ReturnsInHanded {} Try.checked os 8 .any (Rows.locktableProgressSpec.pre6 enc Try.prog Try.f8 Rows.locktableProgressRow.domain false) (Rows.locktableProgressSpec.post enc Try.prog Try.f8 false true false false) := by
  refine returnsInHanded_of_change (C := Try.checked) own started (by kernel_rfl) Try.func8
    (ChangeSpec.witness6 (enc := enc) (C := Try.checked) false ⟨#[], #[.agg #[.slice none 0 0, .slice none 0 0]], []⟩ 8 (by kernel_rfl) (by kernel_rfl) (by kernel_rfl) (by kernel_rfl)) ?_
  intro W base args ds gs before hval0 hW hcnd _
  have hval : ∀ (j : Nat) t v, Try.f8.params[j]? = some t → args[j]? = some v → Value.okWide Try.prog W .any base t v := hval0
  have hW' := hW
  obtain ⟨p, q, hA0, hV, rfl, hfz, hnd⟩ := hW
  have hA : DataW.TrodAll enc Try.prog W 0 (fun _ => true) true Try.f8.params.toList args.toList ds p := hA0
  rw [Try.params8] at hA hval
  obtain ⟨v0, vs0, d0, ds0, p0, q0, hargs, rfl, rfl, h0, r0⟩ := trodAll_cons hA
  obtain ⟨rfl, rfl, rfl⟩ := trodAll_nil r0
  obtain rfl : args = #[v0] := by cases args; simp_all
  obtain ⟨rfl, rfl⟩ := trodVars_none hV
  have lt0 : ∀ x ∈ p0, x.block < W.heap.size := by obtain ⟨m, hm⟩ := h0; exact DataW.trod_lt m _ _ _ hm
  obtain ⟨u0, w0, e0⟩ := arg_agg Try.underlying25 sh0 (hval 0 25 v0 rfl rfl) h0
  clear hA0 hval0
  have hp := (Go.Dv.Try.calls (Go.Dv.Try.walkLocktableProgress w0)).law W (vs := #[v0]) rfl (fun j p hj => by
    match j, hj with
    | 0, hj => simp at hj; subst hj; exact e0
    | j + 1, hj => simp at hj)
  refine hp.mono fun e W' ⟨he, bel0⟩ => ?_
  have bel : Go.RowKit.Below W.heap.size W W' := by first | exact bel0 | exact bel0.toBelow
  subst he
  exact ⟨_, rfl, _, _, _, [], _, [], hW', trodAll_mk1 (shut_bool Try.underlying4 _), (trodAll_cons_mk (Below.trod laidOut (by kernel_rfl) (of_decide_eq_true (by kernel_rfl)) h0 bel lt0) trodAll_mk0), rfl, bel.frame _, fun h => by cases h⟩

theorem closed : joinedFacts Try.prog 8 Try.f8 Rows.locktableProgressSpec Rows.locktableProgressRow = true := closedOf mayEnter liftsFinal make rfl rfl (by kernel_rfl)

theorem over : Rows.locktableProgressRow.holds Try.pinned (OpenSpec.ofChange Rows.locktableProgressSpec) :=
  OpenClaim.holds_of_wide 8 Try.f8 rfl rfl rfl rfl rfl rfl rfl ⟨rfl, rfl, rfl, rfl, rfl⟩ rfl rfl rfl rfl rfl (by kernel_rfl) Try.func8 closed
    (of_decide_eq_true (by kernel_rfl)) (by unfold Func.isWrapper; first | (rw [if_pos (by decide +kernel)]; kernel_rfl) | (rw [if_neg (by decide +kernel)]; exact ⟨rfl, rfl⟩))
    (fun os started H enc _ => lifted os started H enc)

theorem proved : Rows.LocktableProgressSaid := over
end Go.Proofs.Ytkpadkncediliaa.locktableProgress
