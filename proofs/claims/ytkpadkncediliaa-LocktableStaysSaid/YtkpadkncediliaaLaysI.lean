/-
  The tables of slices.Insert at this seat. Printed by wip/mkins.py.
-/
import Derived.Test.YtkpadkncediliaaProg
import Derived.Test.YtkpadkncediliaaIns
set_option linter.unusedVariables false
set_option maxRecDepth 100000
namespace Go.Dv.Try
open Go Go.Shelf Go.Proofs

def laysIns61_ren : Ren := ⟨fun | 22 => 61 | 29 => 72 | 30 => 73 | n => n, fun | 0 => 0 | 3 => 3 | 4 => 4 | 9 => 53 | 24 => 23 | n => n, fun n => n⟩
theorem laysIns61 : InsL Proofs.Try.prog laysIns61_ren 2 40 := {
  mixed := by kernel_rfl,
  f22 := ⟨Proofs.Try.f61.name, by decide, Proofs.Try.func61.trans (congrArg some (by kernel_rfl))⟩,
  ov := fun w a b h => by
    have hx := run_callFunc_extern Proofs.Try.func72 (by kernel_rfl) (by kernel_rfl) (by kernel_rfl) (e := Extern.SlicesOverlaps.overlaps #[23, 23] #[4]) (by kernel_rfl) #[a, b] w
    have h2 : (Extern.SlicesOverlaps.overlaps #[23, 23] #[4] #[a, b]).run Proofs.Try.prog w = .ok (.bool false) w := h
    rw [h2] at hx
    exact hx,
  t0 := Proofs.Try.underlying0, a0 := Proofs.Try.isAgg0, z0 := Proofs.Try.sizeOf0, v0 := Proofs.Try.zeroValue0,
  t3 := Proofs.Try.underlying3, a3 := Proofs.Try.isAgg3, z3 := Proofs.Try.sizeOf3, v3 := Proofs.Try.zeroValue3,
  t4 := Proofs.Try.underlying4, a4 := Proofs.Try.isAgg4, z4 := Proofs.Try.sizeOf4, v4 := Proofs.Try.zeroValue4,
  t24 := Proofs.Try.underlying23, a24 := Proofs.Try.isAgg23, z24 := Proofs.Try.sizeOf23, v24 := Proofs.Try.zeroValue23,
  i9 := ⟨_, _, rfl, rfl, rfl, rfl, rfl⟩,
  hk := by decide, hby := by decide }

end Go.Dv.Try
