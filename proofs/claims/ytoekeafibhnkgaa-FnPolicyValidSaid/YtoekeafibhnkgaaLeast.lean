/- Contracts of functions of the given program, and lemmas for them: each theorem states the condition under which it holds. -/
import Derived.Test.YtoekeafibhnkgaaChecked
import Derived.Test.YtoekeafibhnkgaaFlows
import Derived.Test.YtoekeafibhnkgaaFld
namespace Sk
open Go Go.Proofs Go.RowKit
set_option maxHeartbeats 400000
set_option maxRecDepth 100000
set_option linter.unusedVariables false
set_option linter.unusedSimpArgs false
/-- The influence of all on all, column by column: b columns, and a elements of one more. -/
def M.cols (cs : List Channel) (n b a : Nat) : List (List Bool) :=
  (List.range n).map fun i => (List.range n).map fun c => (decide (c < b) || (decide (c = b) && decide (i < a))) && (M.flows cs n c).getD i false
def M.least (cs : List Channel) (n : Nat) : List (List Bool) := (List.range n).map fun i => (List.range n).map fun c => (M.flows cs n c).getD i false
theorem M.cols_len (cs : List Channel) (n b a : Nat) : (M.cols cs n b a).length = n := by simp [M.cols]
theorem M.cols_zero (cs : List Channel) (n : Nat) : M.cols cs n 0 0 = List.replicate n (List.replicate n false) := by
  unfold M.cols
  refine List.ext_getElem (by simp) fun i h1 h2 => ?_
  simp only [List.getElem_map, List.getElem_replicate]
  refine List.ext_getElem (by simp) fun j h3 h4 => ?_
  simp
theorem M.cols_all (cs : List Channel) (n : Nat) : M.cols cs n n 0 = M.least cs n := by
  unfold M.cols M.least
  refine List.ext_getElem (by simp) fun i h1 h2 => ?_
  simp only [List.getElem_map]
  refine List.ext_getElem (by simp) fun j h3 h4 => ?_
  have : j < n := by simpa using h3
  simp [this]
theorem M.cols_next (cs : List Channel) (n b : Nat) : M.cols cs n b n = M.cols cs n (b + 1) 0 := by
  unfold M.cols
  refine List.ext_getElem (by simp) fun i h1 h2 => ?_
  have hi : i < n := by simpa using h1
  simp only [List.getElem_map]
  refine List.ext_getElem (by simp) fun j h3 h4 => ?_
  simp only [List.getElem_map, List.getElem_range, hi, decide_true, Bool.and_true, Nat.not_lt_zero, decide_false, Bool.and_false, Bool.or_false]
  congr 1
  rw [← Bool.decide_or]
  exact decide_eq_decide.2 (by omega)
/-- Row i while column b is filled. -/
def M.colr (cs : List Channel) (n b i : Nat) (d : Bool) : List Bool := (List.range n).map fun c => (decide (c < b) || (decide (c = b) && d)) && (M.flows cs n c).getD i false
theorem M.colr_len (cs : List Channel) (n b i : Nat) (d : Bool) : (M.colr cs n b i d).length = n := by simp [M.colr]
theorem M.cols_at (cs : List Channel) {n b i : Nat} (hi : i < n) : (M.cols cs n b i)[i]? = some (M.colr cs n b i false) := by
  unfold M.cols M.colr; simp [hi]
theorem M.cols_set (cs : List Channel) {n b i : Nat} (hb : b < n) (hi : i < n) : (M.cols cs n b i).set i ((M.colr cs n b i false).set b ((M.flows cs n b).getD i false)) = M.cols cs n b (i + 1) := by
  refine List.ext_getElem (by simp [M.cols]) fun k h1 h2 => ?_
  have hk : k < n := by simpa [M.cols] using h1
  rw [List.getElem_set]
  split
  · subst k
    simp only [M.cols, List.getElem_map, List.getElem_range, M.colr]
    refine List.ext_getElem (by simp) fun j h3 h4 => ?_
    rw [List.getElem_set]
    simp only [List.getElem_map, List.getElem_range, Bool.and_false, Bool.or_false, Nat.lt_succ_self, decide_true, Bool.and_true]
    split
    · subst j; simp
    · have : ¬ j = b := by omega
      simp [this]
  · rename_i hne
    simp only [M.cols, List.getElem_map, List.getElem_range]
    refine List.ext_getElem (by simp) fun j h3 h4 => ?_
    simp only [List.getElem_map, List.getElem_range]
    congr 3
    exact decide_eq_decide.2 (by omega)
theorem Os.hi {α : Type} [GT α] {n : Nat} {w w' : World} {v : Value} {xs : List α} (h : Os n w v xs) (hi : Hi n w w') : Os n w' v xs := by
  obtain ⟨F, h1, h2⟩ := h
  refine ⟨F, h1.keep fun k hk => hi.2 k (h2.2 k hk).1, h2.1, fun k hk => ⟨(h2.2 k hk).1, ?_⟩⟩
  obtain ⟨hk1, cs, T, h3⟩ := h2.2 k hk
  exact ⟨cs, T, by unfold Bk at *; rw [hi.2 k hk1]; exact h3⟩
end Sk

