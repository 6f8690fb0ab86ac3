/- Contracts of functions of the given program, and lemmas for them: each theorem states the condition under which it holds. -/
import Derived.Test.YtoekeafibhnkgaaChecked
import Derived.Deep.CutBlock
import Derived.Deep.CutRange
import Derived.Test.YtoekeafibhnkgaaOb
import Derived.Test.YtoekeafibhnkgaaCopy
import Derived.Test.YtoekeafibhnkgaaCt
import Derived.Test.YtoekeafibhnkgaaDel
namespace Sk
open Go Go.Proofs Go.RowKit
set_option maxHeartbeats 4000000
set_option maxRecDepth 100000
set_option linter.unusedVariables false
set_option linter.unusedSimpArgs false
def RngS (s : M.St) : Prop := ∀ x ∈ s.1, rng x
theorem RngS.nx {s : M.St} (h : RngS s) : rng (M.nx s) := by
  obtain ⟨xs, b⟩ := s
  cases xs with
  | nil => exact rng_zero
  | cons x xs => exact h x (List.mem_cons_self ..)
theorem RngS.ns {s : M.St} (h : RngS s) : RngS (M.ns s) := fun x hx => h x (List.mem_of_mem_tail hx)
theorem M.dec_rng {x : Int} (h : rng x) : rng (M.dec x) := by
  unfold M.dec rng at *
  split <;> omega
theorem Rs.rngs {w : World} {v : Value} {xs : List Int} (h : Rs w v xs) : ∀ x ∈ xs, rng x := fun x hx => by
  obtain ⟨k, hk⟩ := List.getElem?_of_mem hx
  obtain ⟨a, c, rfl, _⟩ := h.form
  obtain ⟨b, o, y, _, _, hy, _, hr⟩ := h.atInt k (List.getElem?_eq_some_iff.1 hk).1
  have := hy.out
  rw [hk] at this; cases this; exact hr
end Sk

