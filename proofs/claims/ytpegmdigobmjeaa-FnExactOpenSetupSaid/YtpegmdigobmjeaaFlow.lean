/- Contracts of functions of the given program, and lemmas for them: each theorem states the condition under which it holds. -/
import Derived.Test.YtpegmdigobmjeaaChecked
import Derived.Test.YtpegmdigobmjeaaNums
namespace Sk
open Go Go.Proofs Go.RowKit
set_option maxHeartbeats 400000
set_option maxRecDepth 100000
set_option linter.unusedVariables false
/-- A channel that lets something flow from f to t. -/
def M.dc (f t : Int) (c : Channel) : Bool := (c.From == f && c.To == t) || (c.Kind == 3 && c.From == t && c.To == f)
def M.dir (cs : List Channel) (f t : Int) : Bool := (f == t) || cs.any (M.dc f t)
end Sk

