/- Contracts of functions of the given program, and lemmas for them: each theorem states the condition under which it holds. -/
import Derived.Test.YtoekeafibhnkgaaChecked
import Derived.Deep.CutBlock
import Derived.Deep.CutRange
import Derived.Test.YtoekeafibhnkgaaOb
import Derived.Test.YtoekeafibhnkgaaCopy
import Derived.Test.YtoekeafibhnkgaaCt
import Derived.Test.YtoekeafibhnkgaaDel
import Derived.Test.YtoekeafibhnkgaaValid
import Derived.Test.YtoekeafibhnkgaaMark
namespace Sk
open Go Go.Proofs Go.RowKit
set_option maxHeartbeats 4000000
set_option maxRecDepth 100000
set_option linter.unusedVariables false
set_option linter.unusedSimpArgs false
def RngS (s : M.St) : Prop := ∀ x ∈ s.1, rng x
theorem RngS.nx {s : M.St} (h : RngS s) : rng (M.nx s) := by
  obtain ⟨xs, b⟩ := s
  cases xs with
  | nil => exact rng_zero
  | cons x xs => exact h x (List.mem_cons_self ..)
theorem RngS.ns {s : M.St} (h : RngS s) : RngS (M.ns s) := fun x hx => h x (List.mem_of_mem_tail hx)
theorem M.dec_rng {x : Int} (h : rng x) : rng (M.dec x) := by
  unfold M.dec rng at *
  split <;> omega
theorem Rs.rngs {w : World} {v : Value} {xs : List Int} (h : Rs w v xs) : ∀ x ∈ xs, rng x := fun x hx => by
  obtain ⟨k, hk⟩ := List.getElem?_of_mem hx
  obtain ⟨a, c, rfl, _⟩ := h.form
  obtain ⟨b, o, y, _, _, hy, _, hr⟩ := h.atInt k (List.getElem?_eq_some_iff.1 hk).1
  have := hy.out
  rw [hk] at this; cases this; exact hr
end Sk

namespace Sk
open Go Go.Proofs Go.RowKit
set_option maxHeartbeats 4000000
set_option maxRecDepth 100000
set_option linter.unusedVariables false
set_option linter.unusedSimpArgs false
end Sk

namespace Sk
open Go Go.Proofs Go.RowKit
set_option maxHeartbeats 1600000
set_option maxRecDepth 100000
set_option linter.unusedVariables false
set_option linter.unusedSimpArgs false
theorem Rs.init {α : Type} [GT α] {w : World} {a : Option Addr} {n c : Nat} {xs : List α} {y : α} (h : Rs w (.slice a n c) (xs ++ [y])) : Rs w (.slice a xs.length c) xs := by
  obtain ⟨F, a', c', he, hl, hc, hr⟩ := h
  cases he
  rw [List.length_append, List.length_singleton] at hl
  rcases hr with ⟨h, _⟩ | ⟨_, b, o, F', rfl, rfl, hr⟩
  · simp at h
  · obtain ⟨F1, F2, rfl, h1, _⟩ := hr.split
    by_cases hx : xs = []
    · subst hx; exact ⟨[], _, c, rfl, by simp, hc, .inl ⟨rfl, rfl⟩⟩
    · exact ⟨b :: F1, _, c, rfl, by omega, hc, .inr ⟨hx, b, o, F1, rfl, rfl, h1⟩⟩
noncomputable def M.openS (xs : List Int) (key : Int) : Setup × Bool :=
  if M.inn key 0 1048572 && (!xs.isEmpty && (M.mix key xs.dropLast == xs.getLastD 0)) then M.readS xs.dropLast else (default, false)
theorem M.openS_nil (key : Int) : M.openS [] key = (default, false) := by unfold M.openS; rw [if_neg (by simp)]
theorem M.openS_key {key : Int} (h : M.inn key 0 1048572 = false) (xs : List Int) : M.openS xs key = (default, false) := by unfold M.openS; rw [if_neg (by simp [h])]
theorem M.openS_eq {key : Int} (h : M.inn key 0 1048572 = true) (ys : List Int) (y : Int) : M.openS (ys ++ [y]) key = if (M.mix key ys == y) = true then M.readS ys else (default, false) := by
  unfold M.openS
  have : (ys ++ [y]).getLastD 0 = y := by simp [List.getLastD_eq_getLast?]
  rw [this]
  simp [h]
theorem M.readS_cases (ys : List Int) : (∃ s, M.setv s = true ∧ M.nums s = ys ∧ M.readS ys = (s, true)) ∨ M.readS ys = (default, false) := by
  by_cases h : ∃ s, M.setv s = true ∧ M.nums s = ys
  · obtain ⟨s, hs, rfl⟩ := h
    exact .inl ⟨s, hs, rfl, M.readS_of hs⟩
  · exact .inr (M.readS_none (fun s hs e => h ⟨s, hs, e⟩))
end Sk

