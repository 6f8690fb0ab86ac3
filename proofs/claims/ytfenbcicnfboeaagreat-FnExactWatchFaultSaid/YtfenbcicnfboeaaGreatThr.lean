/- Contracts of functions of the given program, and lemmas for them: each theorem states the condition under which it holds. -/
import Derived.Test.YtfenbcicnfboeaaGreatChecked
import Derived.Test.YtfenbcicnfboeaaGreatBuild
import Derived.Test.YtfenbcicnfboeaaGreatFoc
namespace Sk
open Go Go.Proofs Go.RowKit
set_option linter.unusedVariables false
set_option linter.unusedSimpArgs false
/-- Of what was there, only the blocks of F may have turned; there may be new blocks. -/
def Mw (F : List Nat) (w w' : World) : Prop :=
 Ext {w with heap := #[]} {w' with heap := #[]} ∧ w.heap.size ≤ w'.heap.size ∧ ∀ b, b < w.heap.size → b ∉ F → w'.heap[b]? = w.heap[b]?
theorem Mw.size {F : List Nat} {a b : World} (h : Mw F a b) : a.heap.size ≤ b.heap.size := h.2.1
section
variable {P : Program} {ops : Array Oper} {Q : Exit → Act → World → Prop}
end
end Sk
