/- Contracts of functions of the given program. -/
import Derived.Deep.CutBlock
import Derived.Test.YtbhedbaafflndaaAcc
import Derived.Test.YtbhedbaafflndaaClone
namespace Sk
open Go Go.Proofs Go.RowKit
set_option maxHeartbeats 400000
set_option maxRecDepth 100000
set_option linter.unusedVariables false
set_option linter.unusedSimpArgs false
theorem zA7{P:Program}{c:Code}{a:Act}{W:World}{Q:Exit->Act->World->Prop}(F:World->Prop)(hF:F W)(h:∀ W1,F W1->Code.wp P c Q a W1):Code.wp P c Q a W:=h W hF
end Sk
