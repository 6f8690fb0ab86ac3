/- Contracts of functions of the given program, and lemmas for them: each theorem states the condition under which it holds. -/
import Derived.Test.YtpegmdigobmjeaaChecked
import Derived.Test.YtpegmdigobmjeaaNums
namespace Sk
open Go Go.Proofs Go.RowKit
set_option maxHeartbeats 400000
set_option maxRecDepth 100000
set_option linter.unusedVariables false
def M.mix1 (n x : Int) : Int := (1000003 * n + x % 1048573 + 1) % 1048573
def M.mix (key : Int) (xs : List Int) : Int := xs.foldl M.mix1 key
theorem M.mix_snoc (key : Int) (xs : List Int) (x : Int) : M.mix key (xs ++ [x]) = M.mix1 (M.mix key xs) x := by simp [M.mix]
theorem M.mix1_rng (n x : Int) : 0 ≤ M.mix1 n x ∧ M.mix1 n x ≤ 1048572 := by unfold M.mix1; omega
theorem tmod_neg (x : Int) (h : x.tmod 1048573 < 0) : x.tmod 1048573 + 1048573 = x % 1048573 := by
  rw [Int.tmod_eq_emod] at *; split at h <;> split <;> simp_all <;> omega
theorem tmod_pos (x : Int) (h : ¬ x.tmod 1048573 < 0) : x.tmod 1048573 = x % 1048573 := by
  rw [Int.tmod_eq_emod] at *; split at h <;> split <;> simp_all <;> omega
theorem tmod_bd (x : Int) : -1048573 < x.tmod 1048573 ∧ x.tmod 1048573 < 1048573 := by
  rw [Int.tmod_eq_emod]; split <;> simp_all <;> omega
theorem tmod_add (x : Int) : (x.tmod 1048573 + 1048573) % 1048573 = x % 1048573 := by
  rw [Int.tmod_eq_emod]; split <;> simp_all
theorem spec_MixNumbers (v : Value) (xs : List Int) (key : Int) (w : World) (h : Rs w v xs) (hk0 : 0 ≤ key) (hk1 : key ≤ 1048572) :
    Calls Try.prog 63 #[.int .i64 key, v] w fun e w' => e = .returned (.int .i64 (M.mix key xs)) ∧ w = w' := by
  obtain ⟨a, c, rfl, hl⟩ := h.form
  have H := Lib.hid h
  clear h
  have hin := M.inn_t hk0 hk1
  go_enter Try.func63, Try.ntmps63
  go_wp2_with (go_at_call 34; refine (spec_In _ _ _ _).mono ?_; rintro e w' ⟨rfl, rfl⟩)
  go_loop [5, 6] (fun n i => ∃ (k : Nat) (r : Int), k ≤ xs.length ∧ i = .int .i64 k ∧ n = .int .i64 r ∧ 0 ≤ r ∧ r ≤ 1048572 ∧ Hid (r = M.mix key (xs.take k))) (fun _ i => xs.length - (intOf i).toNat)
  case atStart => exact ⟨0, key, Nat.zero_le _, by go_num, rfl, hk0, hk1, Lib.hid rfl⟩
  case round =>
    obtain ⟨k, r, hk, rfl, rfl, hr0, hr1, hr⟩ := hrel
    by_cases hlt : k < xs.length
    · obtain ⟨b, o, x, rfl, _, hx, hc, hxr⟩ := H.out.atInt k hlt
      have hs : Hid (M.mix key (xs.take (k + 1)) = M.mix1 r x) := Lib.hid (by rw [take_snoc hx.out, M.mix_snoc, ← hr.out])
      have hm := M.mix1_rng r x
      by_cases hneg : x.tmod 1048573 < 0
      · have hq := Lib.hid (tmod_neg x hneg)
        have hb := (tmod_bd x).1
        go_wp2
        go_round
        case rel => exact ⟨k + 1, M.mix1 r x, by omega, by go_num, by have h := hq.out; unfold M.mix1; rw [← h], hm.1, hm.2, Lib.hid hs.out.symm⟩
        case measure => simp [intOf]; omega
      · have hq := Lib.hid (tmod_pos x hneg)
        have hb := (tmod_bd x).2
        go_wp2
        go_round
        case rel => exact ⟨k + 1, M.mix1 r x, by omega, by go_num, by have h := hq.out; unfold M.mix1; rw [← h], hm.1, hm.2, Lib.hid hs.out.symm⟩
        case measure => simp [intOf]; omega
    · obtain rfl : k = xs.length := by omega
      have hr2 := hr.out
      rw [List.take_length] at hr2
      go_wp2
      go_ret
      exact ⟨rfl, rfl⟩
theorem impl_MixNumbers (v : Value) (xs : List Int) (key : Int) (w : World) (h : Rs w v xs) (hk0 : 0 ≤ key) (hk1 : key ≤ 1048572) :
    Calls Try.prog 100 #[.int .i64 key, v] w fun e w' => e = .returned (.int .i64 (M.mix key xs)) ∧ w = w' := by
  obtain ⟨a, c, rfl, hl⟩ := h.form
  have H := Lib.hid h
  clear h
  have hin := M.inn_t hk0 hk1
  go_enter Try.func100, Try.ntmps100
  go_wp2_with (go_at_call 64; refine (impl_isKey _ _).mono ?_; rintro e w' ⟨rfl, rfl⟩)
  go_loop [0, 6, 12] (fun n _ i => ∃ (k : Nat) (r : Int), k ≤ xs.length ∧ i = .int .i64 k ∧ n = .int .i64 r ∧ 0 ≤ r ∧ r ≤ 1048572 ∧ Hid (r = M.mix key (xs.take k))) (fun _ _ i => xs.length - (intOf i).toNat)
  case atStart => exact ⟨0, key, Nat.zero_le _, by go_num, rfl, hk0, hk1, Lib.hid rfl⟩
  case round =>
    obtain ⟨k, r, hk, rfl, rfl, hr0, hr1, hr⟩ := hrel
    by_cases hlt : k < xs.length
    · obtain ⟨b, o, x, rfl, _, hx, hc, hxr⟩ := H.out.atInt k hlt
      have hs : Hid (M.mix key (xs.take (k + 1)) = M.mix1 r x) := Lib.hid (by rw [take_snoc hx.out, M.mix_snoc, ← hr.out])
      have hm := M.mix1_rng r x
      have hq := Lib.hid (tmod_add x)
      have hb := tmod_bd x
      obtain ⟨hb1, hb2⟩ := hb
      go_wp2
      go_round
      case rel => exact ⟨k + 1, M.mix1 r x, by omega, by go_num, by have h := hq.out; unfold M.mix1; rw [← h]; simp, hm.1, hm.2, Lib.hid hs.out.symm⟩
      case measure => simp [intOf]; omega
    · obtain rfl : k = xs.length := by omega
      have hr2 := hr.out
      rw [List.take_length] at hr2
      go_wp2
      go_ret
      exact ⟨rfl, rfl⟩
end Sk

