/-
  Specifications of the functions of this claim, parts 29.
-/
import Derived.Test.YtpjpnooiofegoaaTab
import Derived.Test.YtpjpnooiofegoaaStep
import Derived.Test.YtpjpnooiofegoaaS1
import Derived.Test.YtpjpnooiofegoaaS16
import Derived.Test.YtpjpnooiofegoaaS24
set_option linter.unusedVariables false
set_option linter.unusedSimpArgs false
set_option maxRecDepth 100000
set_option maxHeartbeats 16000000
namespace Go.Dv.Try
open Go Go.Dv

def optR (b : Bool) : Option X → List (List PV)
  | none => []
  | some y => [xC y b]

def upL (l : List (Int × ByteArray)) (index term : Int) : Bool := decide (termN l l.length < term) || (decide (term = termN l l.length) && decide ((l.length : Int) ≤ index))

theorem upTo_eq (m : M) (i t : Int) : upTo m i t = upL m.log i t := rfl

theorem ps30L (m : M) (f : Fl) (i t : Int) (hl : m.log.length ≤ 100000) : PS tb 94 [.agg (mC m f), .int .i64 i, .int .i64 t] (.bool (upL m.log i t)) := ps30 m f i t hl

/-- What a member gives when it takes a vote's message at its own term. -/
theorem voteR_new {m : M} {x : X} {u : Bool} (hc : concernsX m x 1 = true) (ht : m.term < x.term) (hu : upL m.log x.index x.logTerm = u) :
    voteR m x = ({ followM m x.term with vote := if u then x.frm else 0 }, some (voteReplyX (followM m x.term) x.frm u)) := by
  have hN : newer m x = followM m x.term := if_pos ht
  have hg : grants (followM m x.term) x = u := by
    simp only [grants, upTo_eq, followM, decide_true, Bool.true_and, Bool.true_or, hu]
  unfold voteR
  rw [if_pos hc, hN]
  unfold castM
  rw [hg]
  cases u <;> rfl

theorem voteR_old {m : M} {x : X} {u : Bool} (hc : concernsX m x 1 = true) (ht : ¬ m.term < x.term) (hu : grants m x = u) :
    voteR m x = ({ m with vote := if u then x.frm else m.vote }, some (voteReplyX m x.frm u)) := by
  have hN : newer m x = m := if_neg ht
  unfold voteR
  rw [if_pos hc, hN]
  unfold castM
  rw [hu]
  cases u <;> rfl

end Go.Dv.Try
