/- Contracts of functions of the given program, and lemmas for them: each theorem states the condition under which it holds. -/
import Derived.Test.YtoekeafibhnkgaaChecked
import Derived.Test.YtoekeafibhnkgaaApp
import Derived.Test.YtoekeafibhnkgaaScal
namespace Sk
open Go Go.Proofs Go.RowKit
set_option maxHeartbeats 400000
set_option maxRecDepth 100000
set_option linter.unusedVariables false
set_option linter.unusedSimpArgs false
def M.PV (p : List (List Bool)) (n : Int) : Prop := (p.length : Int) = n ∧ 0 ≤ n ∧ n ≤ 5 ∧ ∀ (j : Nat) (r : List Bool), p[j]? = some r → ((r : List Bool).length : Int) = n ∧ r[j]? = some true
noncomputable def M.pv (p : List (List Bool)) (n : Int) : Bool := Bo (M.PV p n)
theorem specPolicyValid (v : Value) (p : List (List Bool)) (n : Int) (w : World) (h : Rs w v p) :
   Calls Try.prog 6 #[v, .int .i64 n] w fun e w' => e = .returned (.bool (M.pv p n)) ∧ Qt w w' := by
  obtain ⟨a, c, rfl, hl⟩ := h.form
  have H := Lib.hid h
  clear h
  by_cases h1 : (p.length : Int) = n ∧ 0 ≤ n ∧ n ≤ 5
  · obtain ⟨rfl, h2, h3⟩ := h1
    have hin := M.inn_t h2 h3
    go_enter Try.func6, Try.ntmps6
    go_wp2_with (go_at_call 12; refine (spec_In _ _ _ _).mono ?_; rintro e w' ⟨rfl, rfl⟩)
    go_loopw [5] (fun i wr => ∃ k : Nat, k ≤ p.length ∧ i = .int .i64 k ∧ (∀ (j : Nat) (r : List Bool), j < k → p[j]? = some r → ((r : List Bool).length : Int) = p.length ∧ r[j]? = some true) ∧ Qt w wr) (fun i _ => p.length - (intOf i).toNat)
    case atStart => exact ⟨0, Nat.zero_le _, rfl, fun _ _ h => by omega, .refl _⟩
    case round =>
      obtain ⟨k, hk, rfl, he, hq⟩ := hrel
      have HE := Lib.hid he
      have HQ := Lib.hid hq
      clear he hq
      by_cases hlt : k < p.length
      · obtain ⟨b, o, x, a', c', rfl, _, hx, hc1, hr, hlx⟩ := (H.out.ext HQ.out.ext).atList k hlt
        clear H
        by_cases hxl : x.length = p.length
        · obtain ⟨b2, o2, y, rfl, _, hy, hc2⟩ := hr.out.atBool k (by omega)
          have HX := Lib.hid hxl
          rw [hxl] at hc1
          clear hxl
          cases y
          · have HN : Hid (M.pv p p.length = false) := Lib.hid (Bo.f fun h => by have := (h.2.2.2 k x hx.out).2; rw [hy.out] at this; cases this)
            go_wp2
            all_goals go_ret
            all_goals exact ⟨wp_cond_ret HN.out.symm, HQ.out⟩
          · go_wp2
            go_roundw
            case rel =>
              refine ⟨k + 1, by omega, by go_num, fun j r hj hr' => ?_, HQ.out⟩
              by_cases hjk : j = k
              · subst hjk; rw [hx.out] at hr'; cases hr'; exact ⟨by rw [HX.out], hy.out⟩
              · exact HE.out j r (by omega) hr'
            case measure => simp [intOf]; omega
        · have HN : Hid (M.pv p p.length = false) := Lib.hid (Bo.f fun h => by have := (h.2.2.2 k x hx.out).1; omega)
          have hb : decide (x.length = p.length) = false := by simpa using hxl
          go_wp2
          all_goals go_ret
          all_goals exact ⟨wp_cond_ret HN.out.symm, HQ.out⟩
      · have HN : Hid (M.pv p p.length = true) := Lib.hid (Bo.t ⟨rfl, h2, h3, fun j r hr => HE.out j r (by have := lt_of_some hr; omega) hr⟩)
        go_wp2
        go_ret
        exact ⟨wp_cond_ret HN.out.symm, HQ.out⟩
  · have HN : Hid (M.pv p n = false) := Lib.hid (Bo.f fun h => h1 ⟨h.1, h.2.1, h.2.2.1⟩)
    by_cases h2 : (p.length : Int) = n
    · have hin : M.inn n 0 5 = false := M.inn_f fun h => h1 ⟨h2, h⟩
      subst h2
      clear h1
      go_enter Try.func6, Try.ntmps6
      go_wp2_with (go_at_call 12; refine (spec_In _ _ _ _).mono ?_; rintro e w' ⟨rfl, rfl⟩)
      go_ret
      exact ⟨wp_cond_ret HN.out.symm, .refl _⟩
    · have hb : ((p.length : Int) == n) = false := by simpa using h2
      clear h1
      go_enter Try.func6, Try.ntmps6
      go_wp2_with (go_at_call 12; refine (spec_In _ _ _ _).mono ?_; rintro e w' ⟨rfl, rfl⟩)
      all_goals go_ret
      all_goals exact ⟨wp_cond_ret HN.out.symm, .refl _⟩
theorem implPolicyValid (v : Value) (p : List (List Bool)) (n : Int) (w : World) (h : Rs w v p) :
   Calls Try.prog 5 #[v, .int .i64 n] w fun e w' => e = .returned (.bool (M.pv p n)) ∧ Qt w w' := by
  obtain ⟨a, c, rfl, hl⟩ := h.form
  have H := Lib.hid h
  clear h
  by_cases h1 : (p.length : Int) = n ∧ 0 ≤ n ∧ n ≤ 5
  · obtain ⟨rfl, h2, h3⟩ := h1
    have hin := M.inn_t h2 h3
    go_enter Try.func5, Try.ntmps5
    go_wp2_with (go_at_call 11; refine (impl_in _ _ _ _).mono ?_; rintro e w' ⟨rfl, rfl⟩)
    go_loopw [5, 6, 18] (fun _ _ i wr => ∃ k : Nat, k ≤ p.length ∧ i = .int .i64 k ∧ (∀ (j : Nat) (r : List Bool), j < k → p[j]? = some r → (r.length : Int) = p.length ∧ r[j]? = some true) ∧ Qt w wr) (fun _ _ i _ => p.length - (intOf i).toNat)
    case atStart => exact ⟨0, Nat.zero_le _, rfl, fun _ _ h => by omega, .refl _⟩
    case round =>
      obtain ⟨k, hk, rfl, he, hq⟩ := hrel
      have HE := Lib.hid he
      have HQ := Lib.hid hq
      clear he hq
      by_cases hlt : k < p.length
      · obtain ⟨b, o, x, a', c', rfl, _, hx, hc1, hr, hlx⟩ := (H.out.ext HQ.out.ext).atList k hlt
        clear H
        by_cases hxl : x.length = p.length
        · obtain ⟨b2, o2, y, rfl, _, hy, hc2⟩ := hr.out.atBool k (by omega)
          have HX := Lib.hid hxl
          rw [hxl] at hc1
          clear hxl
          cases y
          · have HN : Hid (M.pv p p.length = false) := Lib.hid (Bo.f fun h => by have := (h.2.2.2 k x hx.out).2; rw [hy.out] at this; cases this)
            go_wp2
            all_goals go_ret
            all_goals exact ⟨wp_cond_ret HN.out.symm, HQ.out⟩
          · go_wp2
            go_roundw
            case rel =>
              refine ⟨k + 1, by omega, by go_num, fun j r hj hr' => ?_, HQ.out⟩
              by_cases hjk : j = k
              · subst hjk; rw [hx.out] at hr'; cases hr'; exact ⟨by rw [HX.out], hy.out⟩
              · exact HE.out j r (by omega) hr'
            case measure => simp [intOf]; omega
        · have HN : Hid (M.pv p p.length = false) := Lib.hid (Bo.f fun h => by have := (h.2.2.2 k x hx.out).1; omega)
          have hb : decide (x.length = p.length) = false := by simpa using hxl
          go_wp2
          all_goals go_ret
          all_goals exact ⟨wp_cond_ret HN.out.symm, HQ.out⟩
      · have HN : Hid (M.pv p p.length = true) := Lib.hid (Bo.t ⟨rfl, h2, h3, fun j r hr => HE.out j r (by have := lt_of_some hr; omega) hr⟩)
        go_wp2
        go_ret
        exact ⟨wp_cond_ret HN.out.symm, HQ.out⟩
  · have HN : Hid (M.pv p n = false) := Lib.hid (Bo.f fun h => h1 ⟨h.1, h.2.1, h.2.2.1⟩)
    by_cases h2 : M.inn n 0 5 = true
    · have hb : ((p.length : Int) == n) = false := by simp; intro e; exact h1 ⟨e, M.inn_iff.1 h2⟩
      clear h1
      go_enter Try.func5, Try.ntmps5
      go_wp2_with (go_at_call 11; refine (impl_in _ _ _ _).mono ?_; rintro e w' ⟨rfl, rfl⟩)
      go_ret
      exact ⟨wp_cond_ret HN.out.symm, .refl _⟩
    · rw [Bool.not_eq_true] at h2
      clear h1
      go_enter Try.func5, Try.ntmps5
      go_wp2_with (go_at_call 11; refine (impl_in _ _ _ _).mono ?_; rintro e w' ⟨rfl, rfl⟩)
      all_goals go_ret
      all_goals exact ⟨wp_cond_ret HN.out.symm, .refl _⟩
end Sk

