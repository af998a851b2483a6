/-
  The law of this name of the given program returns true for every input, and no run of it panics or goes on for ever: Rows.QuorumValidatesUptoSaid, the given statement. No condition but the statement itself.
-/
import Derived.Test.YtphkbgjnhfidlaaGreatRows
import Derived.Test.YtphkbgjnhfidlaaGreatBridge
import Derived.Test.YtphkbgjnhfidlaaGreatStart
import Derived.Test.YtphkbgjnhfidlaaGreatTab
import Derived.Test.YtphkbgjnhfidlaaGreatQ4
import Derived.WalkKit
import Derived.ProofKit
import Derived.OpenShut
import Derived.ShutString
import Derived.ChangeOld
import Derived.Below
import Derived.Carry
import Derived.JoinedCond
import Derived.Test.YtphkbgjnhfidlaaGreatBulk
namespace Go.Proofs.YtphkbgjnhfidlaaGreat.quorumValidates
open Go.ChangeShapes Go.WideShapes Go.ChangeAt Go.RowKit Go.Dv
set_option linter.unusedVariables false
set_option linter.unusedSimpArgs false

theorem own : ownKnob Tryz.prog.godebug = none := by kernel_rfl
theorem laidOut : laidOutB Tryz.prog = true := by kernel_rfl

theorem sh0 : shOf Tryz.prog 6 25 = some [.slice [.int .i64, .int .i64, .int .i64, .int .i64, .slice [.int .i64, .str], .int .i64, .int .i64, .slice [.int .i64], .slice [.int .i64], .slice [.int .i64]], .slice [.int .i64, .int .i64, .int .i64, .int .i64, .int .i64, .int .i64, .int .i64, .bool, .slice [.int .i64, .str]]] := by kernel_rfl
def blk (H : Type) : Go.Dv.Bulk H where
  bk := Rows.uptoBulk
  all := Rows.uptoBulkAll
  one := fun d => by
    cases d with
    | lit l => cases l <;> simp [Rows.uptoBulk]
    | _ => simp [Rows.uptoBulk]
  str := fun b => by simp [Rows.uptoBulk]
  slice := fun e s => by simp only [Rows.uptoBulk]; omega
  agg := fun p => by simp only [Rows.uptoBulk]; omega
  cons := fun d r => by simp only [Rows.uptoBulkAll]

set_option maxRecDepth 100000 in
theorem contract (H : Type) (enc : TypeId × Value → H) (W : World) (base : Nat) (args : Array Value) (ds gs : List (DataW H)) (before : List MemPlace)
    (hval0 : ∀ (j : Nat) t v, Tryz.f3.params[j]? = some t → args[j]? = some v → Value.okWide Tryz.prog W .any base t v)
    (hW : DataW.Whole enc Tryz.prog Tryz.f3.params.toList Rows.quorumValidatesSpec.vars false W args.toList ds gs before) (hk : Rows.uptoSmall H (ds ++ gs) = true) :
    Calls Tryz.prog 3 args W fun e W' => ∃ v, e = .returned v ∧ Rows.quorumValidatesSpec.post enc Tryz.prog Tryz.f3 false true false false W args v W' := by
  have hval : ∀ (j : Nat) t v, Tryz.f3.params[j]? = some t → args[j]? = some v → Value.okWide Tryz.prog W .any base t v := hval0
  have hW' := hW
  obtain ⟨p, q, hA0, hV, rfl, hfz, hnd⟩ := hW
  have hA : DataW.TrodAll enc Tryz.prog W 0 (fun _ => true) true Tryz.f3.params.toList args.toList ds p := hA0
  rw [Tryz.params3] at hA hval
  obtain ⟨v0, vs0, d0, ds0, p0, q0, hargs, rfl, rfl, h0, r0⟩ := trodAll_cons hA
  obtain ⟨rfl, rfl, rfl⟩ := trodAll_nil r0
  obtain rfl : args = #[v0] := by cases args; simp_all
  obtain ⟨rfl, rfl⟩ := trodVars_none hV
  have lt0 : ∀ x ∈ p0, x.block < W.heap.size := by obtain ⟨m, hm⟩ := h0; exact DataW.trod_lt m _ _ _ hm
  obtain ⟨u0, w0, e0, z0⟩ := argU_agg (blk H) Tryz.underlying25 sh0 (hval 0 25 v0 rfl rfl) h0
  simp only [Rows.uptoSmall, Rows.uptoBulkAll, List.append_nil, List.nil_append, List.cons_append, decide_eq_true_eq] at hk
  have y0 : szRow u0 ≤ 1048576 := Nat.le_trans z0 (by show Rows.uptoBulk d0 ≤ _; omega)
  clear hA0 hval0
  have hp := (Go.Dv.Tryz.calls (Go.Dv.Tryz.walkQuorumValidates w0 y0)).law W (vs := #[v0]) rfl (fun j p hj => by
    match j, hj with
    | 0, hj => simp at hj; subst hj; exact e0
    | j + 1, hj => simp at hj)
  refine hp.mono fun e W' ⟨he, bel0⟩ => ?_
  have bel : Go.RowKit.Below W.heap.size W W' := by first | exact bel0 | exact bel0.toBelow
  subst he
  exact ⟨_, rfl, _, _, _, [], _, [], hW', trodAll_mk1 (shut_bool Tryz.underlying4 _), (trodAll_cons_mk (Below.trod laidOut (by kernel_rfl) (of_decide_eq_true (by kernel_rfl)) h0 bel lt0) trodAll_mk0), rfl, bel.frame _, fun h => by cases h⟩

set_option maxRecDepth 100000 in
theorem lifted (os : Os) (started : os.Started) (H : Type) (enc : TypeId × Value → H) (F : Stop.Interp) :
    ReturnsInHanded {} Tryz.checked os 3 .any ((Rows.OpenSpec.upto Rows.quorumValidatesSpec).pre6 enc Tryz.prog Tryz.f3 Rows.quorumValidatesUptoRow.domain false) (((Rows.OpenSpec.upto Rows.quorumValidatesSpec).at F).post enc Tryz.prog Tryz.f3 false true false false) := by
  refine returnsInHanded_of_cond (C := Tryz.checked) (s := Rows.OpenSpec.upto Rows.quorumValidatesSpec) (k := Rows.uptoSmall) rfl own started (by kernel_rfl) Tryz.func3
    (OpenSpec.witness (enc := enc) (C := Tryz.checked) (s := Rows.OpenSpec.upto Rows.quorumValidatesSpec) (k := Rows.uptoSmall) rfl false ⟨#[], #[.agg #[.slice none 0 0, .slice none 0 0]], []⟩ 8 (by kernel_rfl) (by kernel_rfl) (by kernel_rfl)
      (x := ([.agg [.nil, .nil]], [], [])) (by kernel_rfl) rfl (by kernel_rfl)) ?_
  intro W base args ds gs before hval hW _ hk _
  exact contract H enc W base args ds gs before hval hW hk

theorem closed : joinedFacts Tryz.prog 3 Tryz.f3 (Rows.OpenSpec.upto Rows.quorumValidatesSpec).bare Rows.quorumValidatesUptoRow = true := closedOf mayEnter liftsFinal make rfl rfl (by kernel_rfl)

theorem over : Rows.quorumValidatesUptoRow.holds Tryz.pinned (Rows.OpenSpec.upto Rows.quorumValidatesSpec) :=
  OpenClaim.holds_of_cond 3 Tryz.f3 rfl rfl rfl rfl rfl rfl rfl ⟨rfl, rfl, rfl, rfl, rfl⟩ rfl rfl rfl rfl rfl (by kernel_rfl) Tryz.func3 closed
    (of_decide_eq_true (by kernel_rfl)) (by unfold Func.isWrapper; first | (rw [if_pos (by decide +kernel)]; kernel_rfl) | (rw [if_neg (by decide +kernel)]; exact ⟨rfl, rfl⟩))
    (fun os started H enc _ F => lifted os started H enc F)

theorem proved : Rows.QuorumValidatesUptoSaid := over
end Go.Proofs.YtphkbgjnhfidlaaGreat.quorumValidates
