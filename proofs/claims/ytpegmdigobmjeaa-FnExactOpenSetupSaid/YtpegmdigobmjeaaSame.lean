/- Contracts of functions of the given program, and lemmas for them: each theorem states the condition under which it holds. -/
import Derived.Test.YtpegmdigobmjeaaChecked
import Derived.Deep.CutBlock
import Derived.Test.YtpegmdigobmjeaaHelp
import Derived.Test.YtpegmdigobmjeaaTypes
namespace Sk
open Go Go.Proofs Go.RowKit
set_option maxHeartbeats 400000
set_option maxRecDepth 100000
set_option linter.unusedVariables false
theorem beq_cases {α : Type} [BEq α] [LawfulBEq α] (x y : α) : (x = y ∧ (x == y) = true ∧ (x != y) = false) ∨ (x ≠ y ∧ (x == y) = false ∧ (x != y) = true) := by
  by_cases h : x = y
  · exact .inl ⟨h, by simpa using h, by simpa using h⟩
  · exact .inr ⟨h, by simpa using h, by simpa using h⟩
theorem impl_Equal_int (v1 v2 : Value) (xs ys : List Int) (w : World) (hv1 : Rs w v1 xs) (hv2 : Rs w v2 ys) :
   Calls Try.prog 39 #[v1, v2] w fun e w' => e = .returned (.bool (Eqb xs ys)) ∧ Ext w w' := by
  obtain ⟨a, c, rfl, hl⟩ := hv1.form
  obtain ⟨a2, c2, rfl, hl2⟩ := hv2.form
  by_cases hne : xs.length = ys.length
  · have H := Lib.hid hne
    rw [← hne] at hv2 hl2 ⊢
    clear hne
    have H1 := Lib.hid hv1
    have H2 := Lib.hid hv2
    clear hv1 hv2
    go_enter Try.func39, Try.ntmps39
    go_wp2
    go_loopw [5, 13] (fun _ i wr => ∃ k : Nat, k ≤ xs.length ∧ i = .int .i64 k ∧ xs.take k = ys.take k ∧ Ext w wr) (fun _ i _ => xs.length - (intOf i).toNat)
    case atStart => exact ⟨0, Nat.zero_le _, rfl, rfl, .refl _⟩
    case round =>
      obtain ⟨k, hk, rfl, he, hq⟩ := hrel
      have HE := Lib.hid he
      have HQ := Lib.hid hq
      clear he hq
      by_cases hlt : k < xs.length
      · obtain ⟨b, o, x, rfl, _, hx1, hc1, g0⟩ := (H1.out.ext HQ.out).atInt k hlt
        obtain ⟨b2, o2, y, rfl, _, hx2, hc2, g1⟩ := (H2.out.ext HQ.out).atInt k (by have := H.out; omega)
        clear H1 H2
        rcases beq_cases x y with ⟨hx, q1, q2⟩ | ⟨hx, q1, q2⟩
        · have hx3 := Lib.hid hx
          clear hx
          go_wp2
          go_quiet (fail)
          go_wp2
          go_roundw
          case rel => exact ⟨k + 1, by omega, by go_num, take_eq_succ hx1.out (by first | exact hx2.out | exact hx3.out ▸ hx2.out) HE.out, HQ.out.drewN _⟩
          case measure => simp [intOf]; omega
        · have HN := Lib.hid (Eqb.f (ne_at hx1.out hx2.out hx))
          clear hx
          go_wp2
          go_quiet (fail)
          go_wp2
          go_ret
          exact ⟨wp_cond_ret HN.out.symm, HQ.out.drewN _⟩
      · have HN := Lib.hid (Eqb.t (take_eq_all xs ys k H.out (by omega) HE.out))
        clear H1 H2
        go_wp2
        go_ret
        exact ⟨wp_cond_ret HN.out.symm, HQ.out⟩
  · have HN := Lib.hid (Eqb.f (fun h => hne (by rw [h]) : xs ≠ ys))
    have hb : decide (xs.length = ys.length) = false := by simpa using hne
    clear hv1 hv2
    go_enter Try.func39, Try.ntmps39
    go_wp2
    all_goals go_ret
    all_goals exact ⟨wp_cond_ret HN.out.symm, .refl _⟩
end Sk

