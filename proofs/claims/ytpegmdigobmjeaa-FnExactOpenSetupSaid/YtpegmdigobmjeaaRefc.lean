/- Contracts of functions of the given program, and lemmas for them: each theorem states the condition under which it holds. -/
import Derived.Test.YtpegmdigobmjeaaChecked
import Derived.Deep.CutBlock
import Derived.Test.YtpegmdigobmjeaaAcc
import Derived.Test.YtpegmdigobmjeaaClone
namespace Sk
open Go Go.Proofs Go.RowKit
set_option maxHeartbeats 400000
set_option maxRecDepth 100000
set_option linter.unusedVariables false
set_option linter.unusedSimpArgs false
/-- The world under a name: what is needed of it is said of it. -/
theorem abs_world {P : Program} {c : Code} {a : Act} {W : World} {Q : Exit → Act → World → Prop} (F : World → Prop) (hF : F W) (h : ∀ W1, F W1 → Code.wp P c Q a W1) : Code.wp P c Q a W := h W hF
theorem Oa.lit0' {α : Type} [GT α] (e : TypeId) (w : World) {B : Nat} (hB : B = w.heap.size) : Oa (α := α) e B (w.alloc (.cells #[] e (0, 0))) (.slice (some ⟨B, 0, none⟩) 0 0) [] [] := by subst hB; exact Oa.lit0 e w
theorem ext_app0 {W w' : World} {o : Obj} {B : Nat} (hg : (W.alloc o).grownBy w' (Value.ownBlock (.slice (some ⟨B, 0, none⟩) 0 0))) (hB : W.heap.size ≤ B) : Ext W w' :=
  Ext.grown ((Ext.refl W).alloc _) hg (fun k hk => by cases hk; exact hB)
theorem agg_inj {cs : List Value} {ar : Array Value} (h : (.agg ar : Value) = .agg cs.toArray) : ar = cs.toArray := by cases h; rfl
end Sk

