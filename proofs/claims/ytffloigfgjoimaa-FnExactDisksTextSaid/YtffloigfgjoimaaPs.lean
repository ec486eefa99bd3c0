/- Who is the first that can begin. No condition. -/
import Derived.Test.YtffloigfgjoimaaPr
namespace Go.Proofs.Ytffloigfgjoimaa.Ev
open Go
set_option linter.unusedVariables false
set_option linter.unusedSimpArgs false
set_option maxHeartbeats 1000000
def firstAt (x : Eng) : Nat → Nat → Int
  | 0, _ => -1
  | d + 1, i => bif canBegin x (i : Int) then (i : Int) else firstAt x d (i + 1)
def firstReady (x : Eng) : Int := firstAt x x.Wait.length 0
end Go.Proofs.Ytffloigfgjoimaa.Ev
