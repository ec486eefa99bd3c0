/- The laws of engines that are right, of what can begin and what a job needs. No condition. -/
import Derived.Test.YtffloigfgjoimaaPq
namespace Go.Proofs.Ytffloigfgjoimaa.Ev
open Go
set_option linter.unusedVariables false
set_option linter.unusedSimpArgs false
set_option maxHeartbeats 1000000
theorem Eng.seq {x : Eng} (h : x.Fit) : inI x.A.Seq ∧ inI x.A.Tail := by
  unfold Eng.Fit Arr.Fit at h
  exact ⟨h.1.2.2.2.2.2.1, h.1.2.2.2.2.2.2.1⟩
end Go.Proofs.Ytffloigfgjoimaa.Ev
