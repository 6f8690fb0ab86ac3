/- Contracts of functions of the given program. -/
import Derived.Test.YtbhedbaafflndaaNums
namespace Sk
open Go Go.Proofs Go.RowKit
set_option maxHeartbeats 400000
set_option maxRecDepth 100000
set_option linter.unusedVariables false
set_option linter.unusedSimpArgs false
theorem zAq{α:Type}(p : α -> Bool){xs:List α}{k:Nat}{x : α}(hk:xs[k]? = some x):(xs.take (k+1)).any p=((xs.take k).any p || p x):=by
 rw[zAf hk,List.any_append];simp
end Sk
