/-
  The law of this name of the given program returns true for every input, and no run of it panics or goes on for ever: Rows.LocktableSafeSaid, the given statement. No condition but the statement itself.
-/
import Derived.Test.YtkpadkncediliaaRows
import Derived.Test.YtkpadkncediliaaBridge
import Derived.Test.YtkpadkncediliaaStart
import Derived.Test.YtkpadkncediliaaTab
import Derived.Test.YtkpadkncediliaaLQ
import Derived.WalkKit
import Derived.ProofKit
import Derived.OpenShut
import Derived.ShutString
import Derived.ChangeOld
import Derived.Below
import Derived.Carry
namespace Go.Proofs.Ytkpadkncediliaa.locktableSafe
open Go.ChangeShapes Go.WideShapes Go.ChangeAt Go.RowKit Go.Dv
set_option linter.unusedVariables false

theorem own : ownKnob Try.prog.godebug = none := by kernel_rfl
theorem laidOut : laidOutB Try.prog = true := by kernel_rfl

theorem sh0 : shOf Try.prog 6 43 = some [.slice [.bool, .slice [.str], .slice [.str]]] := by kernel_rfl
theorem sh1 : shOf Try.prog 6 39 = some [.slice [.int .i64]] := by kernel_rfl

set_option maxRecDepth 100000 in
theorem lifted (os : Os) (started : os.Started) (H : Type) (enc : TypeId × Value → H) :
    ReturnsInHanded {} Try.checked os 6 .any (Rows.locktableSafeSpec.pre6 enc Try.prog Try.f6 Rows.locktableSafeRow.domain false) (Rows.locktableSafeSpec.post enc Try.prog Try.f6 false true false false) := by
  refine returnsInHanded_of_change (C := Try.checked) own started (by kernel_rfl) Try.func6
    (ChangeSpec.witness6 (enc := enc) (C := Try.checked) false ⟨#[], #[.slice none 0 0, .slice none 0 0], []⟩ 8 (by kernel_rfl) (by kernel_rfl) (by kernel_rfl) (by kernel_rfl)) ?_
  intro W base args ds gs before hval0 hW hcnd _
  have hval : ∀ (j : Nat) t v, Try.f6.params[j]? = some t → args[j]? = some v → Value.okWide Try.prog W .any base t v := hval0
  have hW' := hW
  obtain ⟨p, q, hA0, hV, rfl, hfz, hnd⟩ := hW
  have hA : DataW.TrodAll enc Try.prog W 0 (fun _ => true) true Try.f6.params.toList args.toList ds p := hA0
  rw [Try.params6] at hA hval
  obtain ⟨v0, vs0, d0, ds0, p0, q0, hargs, rfl, rfl, h0, r0⟩ := trodAll_cons hA
  obtain ⟨v1, vs1, d1, ds1, p1, q1, rfl, rfl, rfl, h1, r1⟩ := trodAll_cons r0
  obtain ⟨rfl, rfl, rfl⟩ := trodAll_nil r1
  obtain rfl : args = #[v0, v1] := by cases args; simp_all
  obtain ⟨rfl, rfl⟩ := trodVars_none hV
  have lt0 : ∀ x ∈ p0, x.block < W.heap.size := by obtain ⟨m, hm⟩ := h0; exact DataW.trod_lt m _ _ _ hm
  obtain ⟨u0, w0, e0⟩ := arg_slice Try.underlying43 sh0 (hval 0 43 v0 rfl rfl) h0
  have lt1 : ∀ x ∈ p1, x.block < W.heap.size := by obtain ⟨m, hm⟩ := h1; exact DataW.trod_lt m _ _ _ hm
  obtain ⟨u1, w1, e1⟩ := arg_slice Try.underlying39 sh1 (hval 1 39 v1 rfl rfl) h1
  clear hA0 hval0
  have hp := (Go.Dv.Try.calls (Go.Dv.Try.walkLocktableSafe w0 w1)).law W (vs := #[v0, v1]) rfl (fun j p hj => by
    match j, hj with
    | 0, hj => simp at hj; subst hj; exact e0
    | 1, hj => simp at hj; subst hj; exact e1
    | j + 2, hj => simp at hj)
  refine hp.mono fun e W' ⟨he, bel0⟩ => ?_
  have bel : Go.RowKit.Below W.heap.size W W' := by first | exact bel0 | exact bel0.toBelow
  subst he
  exact ⟨_, rfl, _, _, _, [], _, [], hW', trodAll_mk1 (shut_bool Try.underlying4 _), (trodAll_cons_mk (Below.trod laidOut (by kernel_rfl) (of_decide_eq_true (by kernel_rfl)) h0 bel lt0) (trodAll_cons_mk (Below.trod laidOut (by kernel_rfl) (of_decide_eq_true (by kernel_rfl)) h1 bel lt1) trodAll_mk0)), rfl, bel.frame _, fun h => by cases h⟩

theorem closed : joinedFacts Try.prog 6 Try.f6 Rows.locktableSafeSpec Rows.locktableSafeRow = true := closedOf mayEnter liftsFinal make rfl rfl (by kernel_rfl)

theorem over : Rows.locktableSafeRow.holds Try.pinned (OpenSpec.ofChange Rows.locktableSafeSpec) :=
  OpenClaim.holds_of_wide 6 Try.f6 rfl rfl rfl rfl rfl rfl rfl ⟨rfl, rfl, rfl, rfl, rfl⟩ rfl rfl rfl rfl rfl (by kernel_rfl) Try.func6 closed
    (of_decide_eq_true (by kernel_rfl)) (by unfold Func.isWrapper; first | (rw [if_pos (by decide +kernel)]; kernel_rfl) | (rw [if_neg (by decide +kernel)]; exact ⟨rfl, rfl⟩))
    (fun os started H enc _ => lifted os started H enc)

theorem proved : Rows.LocktableSafeSaid := over
end Go.Proofs.Ytkpadkncediliaa.locktableSafe
