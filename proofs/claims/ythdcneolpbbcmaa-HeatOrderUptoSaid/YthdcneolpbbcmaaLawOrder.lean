/-
  The law of this name of the given program returns true for every input, and no run of it panics or goes on for ever: Rows.HeatOrderUptoSaid, the given statement. No condition but the statement itself.
-/
import Derived.Test.YthdcneolpbbcmaaRows
import Derived.Test.YthdcneolpbbcmaaBridge
import Derived.Test.YthdcneolpbbcmaaStart
import Derived.Test.YthdcneolpbbcmaaTab
import Derived.Test.YthdcneolpbbcmaaTB
import Derived.WalkKit
import Derived.ProofKit
import Derived.OpenShut
import Derived.ShutString
import Derived.ChangeOld
import Derived.Below
import Derived.Carry
import Derived.JoinedCond
import Derived.Test.YthdcneolpbbcmaaBulk
namespace Go.Proofs.Ythdcneolpbbcmaa.heatOrder
open Go.ChangeShapes Go.WideShapes Go.ChangeAt Go.RowKit Go.Dv
set_option linter.unusedVariables false
set_option linter.unusedSimpArgs false

theorem own : ownKnob Try.prog.godebug = none := by kernel_rfl
theorem laidOut : laidOutB Try.prog = true := by kernel_rfl

theorem sh0 : shOf Try.prog 6 22 = some [.slice [.str, .int .i64]] := by kernel_rfl
theorem sh1 : shOf Try.prog 6 23 = some [.slice [.str]] := by kernel_rfl
theorem sh2 : shOf Try.prog 6 23 = some [.slice [.str]] := by kernel_rfl
def blk (H : Type) : Go.Dv.Bulk H where
  bk := Rows.uptoBulk
  all := Rows.uptoBulkAll
  one := fun d => by
    cases d with
    | lit l => cases l <;> simp [Rows.uptoBulk]
    | _ => simp [Rows.uptoBulk]
  str := fun b => by simp [Rows.uptoBulk]
  slice := fun e s => by simp only [Rows.uptoBulk]; omega
  agg := fun p => by simp only [Rows.uptoBulk]; omega
  cons := fun d r => by simp only [Rows.uptoBulkAll]

set_option maxRecDepth 100000 in
theorem contract (H : Type) (enc : TypeId × Value → H) (W : World) (base : Nat) (args : Array Value) (ds gs : List (DataW H)) (before : List MemPlace)
    (hval0 : ∀ (j : Nat) t v, Try.f3.params[j]? = some t → args[j]? = some v → Value.okWide Try.prog W .any base t v)
    (hW : DataW.Whole enc Try.prog Try.f3.params.toList Rows.heatOrderSpec.vars false W args.toList ds gs before) (hk : Rows.uptoSmall H (ds ++ gs) = true) :
    Calls Try.prog 3 args W fun e W' => ∃ v, e = .returned v ∧ Rows.heatOrderSpec.post enc Try.prog Try.f3 false true false false W args v W' := by
  have hval : ∀ (j : Nat) t v, Try.f3.params[j]? = some t → args[j]? = some v → Value.okWide Try.prog W .any base t v := hval0
  have hW' := hW
  obtain ⟨p, q, hA0, hV, rfl, hfz, hnd⟩ := hW
  have hA : DataW.TrodAll enc Try.prog W 0 (fun _ => true) true Try.f3.params.toList args.toList ds p := hA0
  rw [Try.params3] at hA hval
  obtain ⟨v0, vs0, d0, ds0, p0, q0, hargs, rfl, rfl, h0, r0⟩ := trodAll_cons hA
  obtain ⟨v1, vs1, d1, ds1, p1, q1, rfl, rfl, rfl, h1, r1⟩ := trodAll_cons r0
  obtain ⟨v2, vs2, d2, ds2, p2, q2, rfl, rfl, rfl, h2, r2⟩ := trodAll_cons r1
  obtain ⟨rfl, rfl, rfl⟩ := trodAll_nil r2
  obtain rfl : args = #[v0, v1, v2] := by cases args; simp_all
  obtain ⟨rfl, rfl⟩ := trodVars_none hV
  have lt0 : ∀ x ∈ p0, x.block < W.heap.size := by obtain ⟨m, hm⟩ := h0; exact DataW.trod_lt m _ _ _ hm
  obtain ⟨u0, w0, e0, z0⟩ := argU_slice (blk H) Try.underlying22 sh0 (hval 0 22 v0 rfl rfl) h0
  have lt1 : ∀ x ∈ p1, x.block < W.heap.size := by obtain ⟨m, hm⟩ := h1; exact DataW.trod_lt m _ _ _ hm
  obtain ⟨u1, w1, e1, z1⟩ := argU_slice (blk H) Try.underlying23 sh1 (hval 1 23 v1 rfl rfl) h1
  have lt2 : ∀ x ∈ p2, x.block < W.heap.size := by obtain ⟨m, hm⟩ := h2; exact DataW.trod_lt m _ _ _ hm
  obtain ⟨u2, w2, e2, z2⟩ := argU_slice (blk H) Try.underlying23 sh2 (hval 2 23 v2 rfl rfl) h2
  simp only [Rows.uptoSmall, Rows.uptoBulkAll, List.append_nil, List.nil_append, List.cons_append, decide_eq_true_eq] at hk
  have y0 : szPV u0 ≤ 1048576 := Nat.le_trans z0 (by show Rows.uptoBulk d0 ≤ _; omega)
  have y1 : szPV u1 ≤ 1048576 := Nat.le_trans z1 (by show Rows.uptoBulk d1 ≤ _; omega)
  have y2 : szPV u2 ≤ 1048576 := Nat.le_trans z2 (by show Rows.uptoBulk d2 ≤ _; omega)
  clear hA0 hval0
  have hp := (Go.Dv.Try.calls (Go.Dv.Try.walkHeatOrder w0 w1 w2 y0 y1 y2)).law W (vs := #[v0, v1, v2]) rfl (fun j p hj => by
    match j, hj with
    | 0, hj => simp at hj; subst hj; exact e0
    | 1, hj => simp at hj; subst hj; exact e1
    | 2, hj => simp at hj; subst hj; exact e2
    | j + 3, hj => simp at hj)
  refine hp.mono fun e W' ⟨he, bel0⟩ => ?_
  have bel : Go.RowKit.Below W.heap.size W W' := by first | exact bel0 | exact bel0.toBelow
  subst he
  exact ⟨_, rfl, _, _, _, [], _, [], hW', trodAll_mk1 (shut_bool Try.underlying4 _), (trodAll_cons_mk (Below.trod laidOut (by kernel_rfl) (of_decide_eq_true (by kernel_rfl)) h0 bel lt0) (trodAll_cons_mk (Below.trod laidOut (by kernel_rfl) (of_decide_eq_true (by kernel_rfl)) h1 bel lt1) (trodAll_cons_mk (Below.trod laidOut (by kernel_rfl) (of_decide_eq_true (by kernel_rfl)) h2 bel lt2) trodAll_mk0))), rfl, bel.frame _, fun h => by cases h⟩

set_option maxRecDepth 100000 in
theorem lifted (os : Os) (started : os.Started) (H : Type) (enc : TypeId × Value → H) (F : Stop.Interp) :
    ReturnsInHanded {} Try.checked os 3 .any ((Rows.OpenSpec.upto Rows.heatOrderSpec).pre6 enc Try.prog Try.f3 Rows.heatOrderUptoRow.domain false) (((Rows.OpenSpec.upto Rows.heatOrderSpec).at F).post enc Try.prog Try.f3 false true false false) := by
  refine returnsInHanded_of_cond (C := Try.checked) (s := Rows.OpenSpec.upto Rows.heatOrderSpec) (k := Rows.uptoSmall) rfl own started (by kernel_rfl) Try.func3
    (OpenSpec.witness (enc := enc) (C := Try.checked) (s := Rows.OpenSpec.upto Rows.heatOrderSpec) (k := Rows.uptoSmall) rfl false ⟨#[], #[.slice none 0 0, .slice none 0 0, .slice none 0 0], []⟩ 8 (by kernel_rfl) (by kernel_rfl) (by kernel_rfl)
      (x := ([.nil, .nil, .nil], [], [])) (by kernel_rfl) rfl (by kernel_rfl)) ?_
  intro W base args ds gs before hval hW _ hk _
  exact contract H enc W base args ds gs before hval hW hk

theorem closed : joinedFacts Try.prog 3 Try.f3 (Rows.OpenSpec.upto Rows.heatOrderSpec).bare Rows.heatOrderUptoRow = true := closedOf mayEnter liftsFinal make rfl rfl (by kernel_rfl)

theorem over : Rows.heatOrderUptoRow.holds Try.pinned (Rows.OpenSpec.upto Rows.heatOrderSpec) :=
  OpenClaim.holds_of_cond 3 Try.f3 rfl rfl rfl rfl rfl rfl rfl ⟨rfl, rfl, rfl, rfl, rfl⟩ rfl rfl rfl rfl rfl (by kernel_rfl) Try.func3 closed
    (of_decide_eq_true (by kernel_rfl)) (by unfold Func.isWrapper; first | (rw [if_pos (by decide +kernel)]; kernel_rfl) | (rw [if_neg (by decide +kernel)]; exact ⟨rfl, rfl⟩))
    (fun os started H enc _ F => lifted os started H enc F)

theorem proved : Rows.HeatOrderUptoSaid := over
end Go.Proofs.Ythdcneolpbbcmaa.heatOrder
