/- Contracts of functions of the given program, and lemmas for them: each theorem states the condition under which it holds. -/
import Derived.Test.YtpegmdigobmjeaaChecked
import Derived.Test.YtpegmdigobmjeaaPol
import Derived.Test.YtpegmdigobmjeaaHelp
import Derived.Test.YtpegmdigobmjeaaTo
import Derived.Test.YtpegmdigobmjeaaEq
namespace Sk
open Go Go.Proofs Go.RowKit
set_option maxHeartbeats 400000
set_option maxRecDepth 100000
set_option linter.unusedVariables false
end Sk

