/-
  Specifications of the functions of this claim, parts 20.
-/
import Derived.Test.YtphkbgjnhfidlaaGreatTab
import Derived.Test.YtphkbgjnhfidlaaGreatStep
import Derived.Test.YtphkbgjnhfidlaaGreatS1
import Derived.Test.YtphkbgjnhfidlaaGreatS8
import Derived.Test.YtphkbgjnhfidlaaGreatS12
import Derived.Test.YtphkbgjnhfidlaaGreatS16
import Derived.Test.YtphkbgjnhfidlaaGreatS18
set_option linter.unusedVariables false
set_option linter.unusedSimpArgs false
set_option maxRecDepth 100000
set_option maxHeartbeats 16000000
namespace Go.Dv.Tryz
open Go Go.Dv

theorem ps52 (m : M) (f : Fl) (x : X) (q : Bool) (hm : MFew m) (hi : x.items.length ≤ 300) : ∃ g, PS tb 101 [.agg (mC m f), .agg (xC x q)] (.tuple [.agg (mC (appR m x).1 g), .slice true (optRows true (appR m x).2)]) := by
  cases hc : concernsX m x 3 with
  | false => exact ps52a m f x q hm hi hc
  | true =>
    by_cases ht : x.term < m.term
    · exact ps52b m f x q hm hi hc ht
    · by_cases hu : m.term < x.term
      · by_cases hk : (m.log.length : Int) < x.index
        · exact ps52A1 m f x q hm hi hc ht hu hk
        · by_cases hz : x.index = 0 ∨ termN m.log x.index = x.logTerm
          · by_cases he : 256 < x.index + (x.items.length : Int)
            · exact ps52A3 m f x q hm hi hc ht hu hk hz he
            · by_cases hs : (sameX m x : Int) < (x.items.length : Int)
              · by_cases hw : x.index + (sameX m x : Int) < m.commit
                · exact ps52A4 m f x q hm hi hc ht hu hk hz he hs hw
                · exact ps52A5 m f x q hm hi hc ht hu hk hz he hs hw
              · exact ps52A6 m f x q hm hi hc ht hu hk hz he hs
          · exact ps52A2 m f x q hm hi hc ht hu hk (fun h => hz (.inl h)) (fun h => hz (.inr h))
      · by_cases hr : m.role = 3
        · exact ps52c m f x q hm hi hc ht hu hr
        · by_cases hk : (m.log.length : Int) < x.index
          · exact ps52C1 m f x q hm hi hc ht hu hr hk
          · by_cases hz : x.index = 0 ∨ termN m.log x.index = x.logTerm
            · by_cases he : 256 < x.index + (x.items.length : Int)
              · exact ps52C3 m f x q hm hi hc ht hu hr hk hz he
              · by_cases hs : (sameX m x : Int) < (x.items.length : Int)
                · by_cases hw : x.index + (sameX m x : Int) < m.commit
                  · exact ps52C4 m f x q hm hi hc ht hu hr hk hz he hs hw
                  · exact ps52C5 m f x q hm hi hc ht hu hr hk hz he hs hw
                · exact ps52C6 m f x q hm hi hc ht hu hr hk hz he hs
            · exact ps52C2 m f x q hm hi hc ht hu hr hk (fun h => hz (.inl h)) (fun h => hz (.inr h))

end Go.Dv.Tryz
