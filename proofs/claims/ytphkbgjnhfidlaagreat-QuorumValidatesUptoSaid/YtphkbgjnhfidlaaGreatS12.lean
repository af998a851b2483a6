/-
  Specifications of the functions of this claim, parts 12.
-/
import Derived.Test.YtphkbgjnhfidlaaGreatTab
import Derived.Test.YtphkbgjnhfidlaaGreatStep
import Derived.Test.YtphkbgjnhfidlaaGreatS1
set_option linter.unusedVariables false
set_option linter.unusedSimpArgs false
set_option maxRecDepth 100000
set_option maxHeartbeats 16000000
namespace Go.Dv.Tryz
open Go Go.Dv

def zeroM : M := ⟨0, 0, 0, 0, [], 0, 0, [], [], []⟩

end Go.Dv.Tryz
