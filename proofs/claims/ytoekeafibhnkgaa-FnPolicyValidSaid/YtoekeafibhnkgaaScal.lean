/- Contracts of functions of the given program, and lemmas for them: each theorem states the condition under which it holds. -/
import Derived.Test.YtoekeafibhnkgaaChecked
import Derived.Test.YtoekeafibhnkgaaTypes
namespace Sk
open Go Go.Proofs Go.RowKit
set_option maxHeartbeats 400000
set_option maxRecDepth 100000
set_option linter.unusedVariables false
set_option linter.unusedSimpArgs false
/-- lo ≤ n ≤ hi. -/
def M.inn (n lo hi : Int) : Bool := decide (lo ≤ n) && decide (n ≤ hi)
theorem M.inn_t {n lo hi : Int} (h1 : lo ≤ n) (h2 : n ≤ hi) : M.inn n lo hi = true := by simp [M.inn, h1, h2]
theorem M.inn_f {n lo hi : Int} (h : ¬ (lo ≤ n ∧ n ≤ hi)) : M.inn n lo hi = false := by simp [M.inn]; omega
theorem M.inn_iff {n lo hi : Int} : M.inn n lo hi = true ↔ lo ≤ n ∧ n ≤ hi := by simp [M.inn]
theorem M.inn_ff {n lo hi : Int} (h : M.inn n lo hi = false) : ¬ (lo ≤ n ∧ n ≤ hi) := fun h' => by rw [M.inn_t h'.1 h'.2] at h; cases h
theorem spec_In (n lo hi : Int) (w : World) : Calls Try.prog 12 #[.int .i64 n, .int .i64 lo, .int .i64 hi] w fun e w' => e = .returned (.bool (M.inn n lo hi)) ∧ w = w' := by
  by_cases h1 : lo ≤ n
  · have hm : Hid (M.inn n lo hi = decide (n ≤ hi)) := by simp [M.inn, h1, Hid]
    go_enter Try.func12, Try.ntmps12
    go_wp2
    all_goals go_ret
    all_goals exact ⟨by rw [hm.out]; rfl, rfl⟩
  · have hm : Hid (M.inn n lo hi = false) := by simp [M.inn, h1, Hid]
    go_enter Try.func12, Try.ntmps12
    go_wp2
    all_goals go_ret
    all_goals exact ⟨by rw [hm.out]; rfl, rfl⟩
theorem impl_in (n lo hi : Int) (w : World) : Calls Try.prog 11 #[.int .i64 n, .int .i64 lo, .int .i64 hi] w fun e w' => e = .returned (.bool (M.inn n lo hi)) ∧ w = w' := by
  by_cases h1 : lo ≤ n
  · have hm : Hid (M.inn n lo hi = decide (n ≤ hi)) := by simp [M.inn, h1, Hid]
    go_enter Try.func11, Try.ntmps11
    go_wp2
    all_goals go_ret
    all_goals exact ⟨by rw [hm.out]; rfl, rfl⟩
  · have hm : Hid (M.inn n lo hi = false) := by simp [M.inn, h1, Hid]
    go_enter Try.func11, Try.ntmps11
    go_wp2
    all_goals go_ret
    all_goals exact ⟨by rw [hm.out]; rfl, rfl⟩
/-- A kind and a size that fit. -/
noncomputable def M.sized (k s : Int) : Bool := Bo (k = 1 ∧ s = 1 ∨ (k = 2 ∨ k = 3) ∧ 1 ≤ s ∧ s ≤ 4)
end Sk

