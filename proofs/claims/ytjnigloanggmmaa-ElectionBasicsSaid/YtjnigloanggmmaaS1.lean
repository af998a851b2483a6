/-
  Specifications, part 1: encodings; few, items, Majority, validLog.
-/
import Derived.Test.YtjnigloanggmmaaTab
import Derived.Test.YtjnigloanggmmaaStep
set_option linter.unusedVariables false
set_option linter.unusedSimpArgs false
set_option maxRecDepth 100000
namespace Go.Dv.Try
open Go Go.Dv

def itemPV (x : Int × ByteArray) : List PV := [.int .i64 x.1, .str x.2]

def itemsPV (l : List (Int × ByteArray)) : List (List PV) := l.map itemPV

def intPV (x : Int) : List PV := [.int .i64 x]

def intsPV (l : List Int) : List (List PV) := l.map intPV

theorem itemsPV_length (l : List (Int × ByteArray)) : (itemsPV l).length = l.length := by simp [itemsPV]

theorem intsPV_length (l : List Int) : (intsPV l).length = l.length := by simp [intsPV]

theorem itemsPV_get (l : List (Int × ByteArray)) (i : Nat) (h : i < l.length) : (itemsPV l)[i]? = some (itemPV l[i]) := by simp [itemsPV, h]

theorem intsPV_get (l : List Int) (i : Nat) (h : i < l.length) : (intsPV l)[i]? = some (intPV l[i]) := by simp [intsPV, h]

def short98 (x : Int × ByteArray) : Bool := decide (x.2.size ≤ 5000)

def few98 (l : List (Int × ByteArray)) : Bool := decide (l.length ≤ 300) && l.all short98

end Go.Dv.Try
