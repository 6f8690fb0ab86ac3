/- Contracts of functions of the given program. -/
import Derived.Test.YtbhedbaafflndaaFlow
import Derived.Test.YtbhedbaafflndaaTo
namespace Sk
open Go Go.Proofs Go.RowKit
set_option maxHeartbeats 400000
set_option maxRecDepth 100000
set_option linter.unusedVariables false
set_option linter.unusedSimpArgs false
theorem Os.mono{α:Type}[GT α]{L L':Nat}{w:World}{v:Value}{xs:List α}(h:Os L w v xs)(hl:L'<=L):Os L' w v xs:=by
 obtain⟨F,h,o⟩:=h;exact⟨F,h,o.mono hl⟩
end Sk
