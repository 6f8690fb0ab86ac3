/- Contracts of functions of the given program, and lemmas for them: each theorem states the condition under which it holds. -/
import Derived.Test.YtoekeafibhnkgaaChecked
import Derived.Deep.CutBlock
import Derived.Test.YtoekeafibhnkgaaAcc
import Derived.Test.YtoekeafibhnkgaaTop
import Derived.Test.YtoekeafibhnkgaaLeast
namespace Sk
open Go Go.Proofs Go.RowKit
set_option maxHeartbeats 400000
set_option maxRecDepth 100000
set_option linter.unusedVariables false
set_option linter.unusedSimpArgs false
/-- The world under a name: what is needed of it is said of it. -/
theorem abs_world {P : Program} {c : Code} {a : Act} {W : World} {Q : Exit → Act → World → Prop} (F : World → Prop) (hF : F W) (h : ∀ W1, F W1 → Code.wp P c Q a W1) : Code.wp P c Q a W := h W hF
theorem Oa.lit0' {α : Type} [GT α] (e : TypeId) (w : World) {B : Nat} (hB : B = w.heap.size) : Oa (α := α) e B (w.alloc (.cells #[] e (0, 0))) (.slice (some ⟨B, 0, none⟩) 0 0) [] [] := by subst hB; exact Oa.lit0 e w
theorem ext_app0 {W w' : World} {o : Obj} {B : Nat} (hg : (W.alloc o).grownBy w' (Value.ownBlock (.slice (some ⟨B, 0, none⟩) 0 0))) (hB : W.heap.size ≤ B) : Ext W w' :=
  Ext.grown ((Ext.refl W).alloc _) hg (fun k hk => by cases hk; exact hB)
theorem elBool : El Try.prog 4 Bool := El.of (z := .bool false) (n := 1) (b := 1) (by kernel_rfl) rfl rfl (by decide)
end Sk

namespace Sk
open Go Go.Proofs Go.RowKit
set_option maxHeartbeats 400000
set_option maxRecDepth 100000
set_option linter.unusedVariables false
set_option linter.unusedSimpArgs false
noncomputable def M.leastP (s : Setup) : List (List Bool) := if M.setv s then M.least s.Channels s.Parts.length else []
theorem M.leastP_t {s : Setup} (h : M.setv s = true) : M.leastP s = M.least s.Channels s.Parts.length := if_pos h
theorem M.leastP_f {s : Setup} (h : M.setv s = false) : M.leastP s = [] := if_neg (by rw [h]; decide)
theorem M.setv_csv {s : Setup} (h : M.setv s = true) : M.csv s.Channels s.Parts.length = true := by
  simp only [M.setv, Bool.and_eq_true] at h; exact h.2.1
theorem M.least_len (cs : List Channel) (n : Nat) : (M.least cs n).length = n := by simp [M.least]
theorem range_map_take {α : Type} (f : Nat → α) {n k : Nat} (h : k < n) : ((List.range n).map f).take (k + 1) = ((List.range n).map f).take k ++ [f k] := by
  rw [take_snoc (x := f k) (by simp [h])]
theorem Ov.hi {α : Type} [GT α] {n : Nat} {w w' : World} {v : Value} {x : α} (h : Ov n w v x) (hi : Hi n w w') : Ov n w' v x := by
  obtain ⟨cs, F, rfl, h1, h2⟩ := h
  refine ⟨cs, F, rfl, GT.keep h1 fun k hk => hi.2 k (h2.2 k hk).1, h2.1, fun k hk => ⟨(h2.2 k hk).1, ?_⟩⟩
  obtain ⟨hk1, cs', T, h3⟩ := h2.2 k hk
  exact ⟨cs', T, by unfold Bk at *; rw [hi.2 k hk1]; exact h3⟩
end Sk

