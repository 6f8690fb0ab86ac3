/- Contracts of functions of the given program. -/
import Derived.Lib.SliceRun
import Derived.Test.YtbhedbaafflndaaNums
namespace Sk
open Go Go.Proofs Go.RowKit
set_option maxHeartbeats 400000
set_option maxRecDepth 100000
set_option linter.unusedVariables false
set_option linter.unusedSimpArgs false
theorem zCn:El Try.prog 30 Order:=El.of (z:=.agg #[.int .i64 0,.int .i64 0,.int .i64 0]) (n:=3) (b:=24) (by kernel_rfl) rfl rfl (by decide)
end Sk
