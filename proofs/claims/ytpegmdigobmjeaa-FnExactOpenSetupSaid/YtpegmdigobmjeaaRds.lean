/- Contracts of functions of the given program, and lemmas for them: each theorem states the condition under which it holds. -/
import Derived.Test.YtpegmdigobmjeaaChecked
import Derived.ChangeArms
import Derived.Test.YtpegmdigobmjeaaRead
import Derived.Test.YtpegmdigobmjeaaTypes
namespace Sk
open Go Go.Proofs Go.RowKit Go.ChangeShapes Go.WideShapes Go.ChangeAt Go.Deep
set_option maxRecDepth 100000
set_option linter.unusedVariables false
theorem rd_int : Rdr Try.prog 3 Int := .int Try.underlying3 (by kernel_rfl)
theorem rd_IntS : Rdr Try.prog 22 (List Int) := .slice rd_int Try.underlying22 (by kernel_rfl)
end Sk

