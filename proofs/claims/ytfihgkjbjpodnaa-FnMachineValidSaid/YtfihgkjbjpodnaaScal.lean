/- Contracts of functions of the given program, each under the condition that it states. -/
import Derived.Test.YtfihgkjbjpodnaaChecked
import Derived.Test.YtfihgkjbjpodnaaTypes
namespace Sk
open Go Go.Proofs Go.RowKit
set_option maxHeartbeats 400000
set_option maxRecDepth 100000
set_option linter.unusedVariables false
set_option linter.unusedSimpArgs false
def M.inn (n lo hi : Int) : Bool := decide (lo ≤ n) && decide (n ≤ hi)
theorem M.inn_t {n lo hi : Int} (h1 : lo ≤ n) (h2 : n ≤ hi) : M.inn n lo hi = true := by simp [M.inn, h1, h2]
theorem M.inn_f {n lo hi : Int} (h : ¬ (lo ≤ n ∧ n ≤ hi)) : M.inn n lo hi = false := by simp [M.inn]; omega
theorem M.inn_iff {n lo hi : Int} : M.inn n lo hi = true ↔ lo ≤ n ∧ n ≤ hi := by simp [M.inn]
theorem spec_In (n lo hi : Int) (w : World) : Calls Try.prog 17 #[.int .i64 n, .int .i64 lo, .int .i64 hi] w fun e w' => e = .returned (.bool (M.inn n lo hi)) ∧ w = w' := by
 by_cases h1 : lo ≤ n
 ·have hm : Hid (M.inn n lo hi = decide (n ≤ hi)) := by simp [M.inn, h1, Hid]
  go_enter Try.func17, Try.ntmps17
  go_wp2
  all_goals go_ret
  all_goals exact ⟨by rw [hm.out]; rfl, rfl⟩
 ·have hm : Hid (M.inn n lo hi = false) := by simp [M.inn, h1, Hid]
  go_enter Try.func17, Try.ntmps17
  go_wp2
  all_goals go_ret
  all_goals exact ⟨by rw [hm.out]; rfl, rfl⟩
theorem impl_in (n lo hi : Int) (w : World) : Calls Try.prog 13 #[.int .i64 n, .int .i64 lo, .int .i64 hi] w fun e w' => e = .returned (.bool (M.inn n lo hi)) ∧ w = w' := by
 by_cases h1 : lo ≤ n
 ·have hm : Hid (M.inn n lo hi = decide (n ≤ hi)) := by simp [M.inn, h1, Hid]
  go_enter Try.func13, Try.ntmps13
  go_wp2
  all_goals go_ret
  all_goals exact ⟨by rw [hm.out]; rfl, rfl⟩
 ·have hm : Hid (M.inn n lo hi = false) := by simp [M.inn, h1, Hid]
  go_enter Try.func13, Try.ntmps13
  go_wp2
  all_goals go_ret
  all_goals exact ⟨by rw [hm.out]; rfl, rfl⟩
def M.bit (b : Bool) : Int := if b then 1 else 0
theorem impl_isValue (n : Int) (w : World) : Calls Try.prog 29 #[.int .i64 n] w fun e w' => e = .returned (.bool (M.inn n 0 255)) ∧ w = w' := by
 go_enter Try.func29, Try.ntmps29
 go_wp2_with (go_at_call 13; refine (impl_in _ _ _ _).mono ?_; rintro e w' ⟨rfl, rfl⟩)
 go_ret
 exact ⟨rfl, rfl⟩
noncomputable def M.sized (k s : Int) : Bool := Bo (k = 1 ∧ s = 1 ∨ (k = 2 ∨ k = 3) ∧ 1 ≤ s ∧ s ≤ 4)
theorem impl_sized (k s : Int) (w : World) : Calls Try.prog 30 #[.int .i64 k, .int .i64 s] w fun e w' => e = .returned (.bool (M.sized k s)) ∧ w = w' := by
 by_cases h1 : k = 1
 ·subst h1
  have hm : Hid (M.sized 1 s = (s == 1)) := by
   unfold Hid M.sized
   by_cases h : s = 1
   ·rw [Bo.t (by omega)]; simp [h]
   ·rw [Bo.f (by omega)]; simp [h]
  go_enter Try.func30, Try.ntmps30
  go_wp2
  all_goals go_ret
  all_goals exact ⟨by rw [hm.out]; (first | rfl | simp_all), rfl⟩
 ·have h1' : (k == 1) = false := by simpa using h1
  by_cases h2 : k = 2
  ·subst h2
   have hm : Hid (M.sized 2 s = M.inn s 1 4) := by
    unfold Hid M.sized
    by_cases h : 1 ≤ s ∧ s ≤ 4
    ·rw [Bo.t (by omega), M.inn_t h.1 h.2]
    ·rw [Bo.f (by omega), M.inn_f h]
   clear h1 h1'
   go_enter Try.func30, Try.ntmps30
   go_wp2_with (go_at_call 13; refine (impl_in _ _ _ _).mono ?_; rintro e w' ⟨rfl, rfl⟩)
   go_ret
   exact ⟨by rw [hm.out]; rfl, rfl⟩
  ·have h2' : (k == 2) = false := by simpa using h2
   by_cases h3 : k = 3
   ·subst h3
    have hm : Hid (M.sized 3 s = M.inn s 1 4) := by
     unfold Hid M.sized
     by_cases h : 1 ≤ s ∧ s ≤ 4
     ·rw [Bo.t (by omega), M.inn_t h.1 h.2]
     ·rw [Bo.f (by omega), M.inn_f h]
    clear h1 h1' h2 h2'
    go_enter Try.func30, Try.ntmps30
    go_wp2_with (go_at_call 13; refine (impl_in _ _ _ _).mono ?_; rintro e w' ⟨rfl, rfl⟩)
    go_ret
    exact ⟨by rw [hm.out]; rfl, rfl⟩
   ·have h3' : (k == 3) = false := by simpa using h3
    have hm : Hid (M.sized k s = false) := zh (Bo.f (by omega))
    clear h1 h2 h3
    go_enter Try.func30, Try.ntmps30
    go_wp2
    go_ret
    exact ⟨by rw [hm.out]; rfl, rfl⟩
end Sk
