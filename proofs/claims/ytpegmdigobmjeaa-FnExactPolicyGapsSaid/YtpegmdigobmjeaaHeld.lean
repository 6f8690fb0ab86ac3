/- Contracts of functions of the given program, and lemmas for them: each theorem states the condition under which it holds. -/
import Derived.Test.YtpegmdigobmjeaaChecked
import Derived.Test.YtpegmdigobmjeaaFoc
namespace Sk
open Go Go.Proofs Go.RowKit
set_option maxHeartbeats 400000
set_option maxRecDepth 100000
set_option linter.unusedVariables false
set_option linter.unusedSimpArgs false
theorem heldIntS (v : Value) (xs : List Int) (k : Int) (w : World) (h : Rs w v xs) (hmk : GT.mkE xs k = xs) (hk0 : 0 ≤ k) (hk1 : k + (GT.ct xs : Nat) ≤ 1000000000000) :
    Calls Try.prog 29 #[v, .int .i64 k] w fun e w' => e = .returned (.int .i64 (k + (GT.ct xs : Nat))) ∧ w = w' := by
  obtain ⟨a, c, rfl, hl⟩ := h.form
  have H := Lib.hid h
  have HM := Lib.hid hmk
  clear h hmk
  go_enter Try.func29, Try.ntmps29
  go_wp2
  go_loop [1, 5] (fun kk i => ∃ (j : Nat) (r : Int), j ≤ xs.length ∧ i = .int .i64 j ∧ kk = .int .i64 r ∧ Hid (r = k + (ctK xs j : Nat))) (fun _ i => xs.length - (intOf i).toNat)
  case atStart => exact ⟨0, k, Nat.zero_le _, by go_num, by go_num, Lib.hid (by simp [ctK_zero])⟩
  case round =>
    obtain ⟨j, r, hj, rfl, rfl, hr⟩ := hrel
    by_cases hlt : j < xs.length
    · obtain ⟨b, o, x, rfl, _, hx, hd0, g0⟩ := H.out.atInt j hlt
      have hm := mk_at HM.out hx.out
      have hct := ctK_at hx.out
      have hr2 := hr.out
      have hcx : GT.ct x = 1 := rfl
      have q0 : x = k + (ctK xs j : Nat) := hm.symm
      clear hm
      go_wp2
      go_round
      case rel => exact ⟨j + 1, _, by omega, by go_num, rfl, Lib.hid (by have := ctK_succ hx.out; omega)⟩
      case measure => simp [intOf]; omega
    · obtain rfl : j = xs.length := by omega
      have hr2 := hr.out
      rw [ctK_all] at hr2
      go_wp2
      go_ret
      exact ⟨rfl, rfl⟩
end Sk

