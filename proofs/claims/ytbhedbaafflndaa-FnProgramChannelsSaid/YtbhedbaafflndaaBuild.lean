/- Contracts of functions of the given program. -/
import Derived.Test.YtbhedbaafflndaaAcc
namespace Sk
open Go Go.Proofs Go.RowKit
set_option linter.unusedVariables false
set_option linter.unusedSimpArgs false
section
variable {P:Program} {ops:Array Oper} {Q:Exit->Act->World->Prop}
end
theorem zB4{a b:World}(h:Ext a b){k o:Nat}(hk:k < a.heap.size):b.cell? ⟨k,o,none⟩=a.cell? ⟨k,o,none⟩:=(bcell h).1 k o hk
end Sk
