/- Contracts of functions of the given program. -/
import Derived.Test.YtbhedbaafflndaaFoc
namespace Sk
open Go Go.RowKit
set_option linter.unusedVariables false
set_option linter.unusedSimpArgs false
theorem Fz.lt{w:World}{b:Nat}(h:Fz w b):b < w.heap.size:=by obtain⟨cs,T,h⟩:=h;exact h.lt
theorem Own.lt{L:Nat}{w:World}{F:List Nat}(h:Own L w F){k:Nat}(hk:k∈F):k < w.heap.size:=(h.2 k hk).2.lt
end Sk
