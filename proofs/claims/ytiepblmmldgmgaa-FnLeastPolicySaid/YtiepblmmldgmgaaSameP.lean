/- Contracts of functions of the given program, and lemmas for them: each theorem states the condition under which it holds. -/
import Derived.Test.YtiepblmmldgmgaaChecked
import Derived.Deep.CutBlock
import Derived.Deep.CutRange
import Derived.Test.YtiepblmmldgmgaaCopy
import Derived.Test.YtiepblmmldgmgaaBuild
import Derived.Test.YtiepblmmldgmgaaRead
import Derived.Test.YtiepblmmldgmgaaTypes
import Derived.Test.YtiepblmmldgmgaaNums
namespace Sk
open Go Go.Proofs Go.RowKit
set_option maxHeartbeats 1600000
set_option maxRecDepth 100000
set_option linter.unusedVariables false
set_option linter.unusedSimpArgs false
theorem law_samePolicy (v1 v2 : Value) (xs ys : List (List Bool)) (w : World) (hv1 : Rs w v1 xs) (hv2 : Rs w v2 ys) :
   Calls Try.prog 20 #[v1, v2] w fun e w' => e = .returned (.bool (Eqb xs ys)) ∧ Ext w w' := by
  obtain ⟨a, c, rfl, hl⟩ := hv1.form
  obtain ⟨a2, c2, rfl, hl2⟩ := hv2.form
  by_cases hne : xs.length = ys.length
  · have H := Lib.hid hne
    rw [← hne] at hv2 hl2 ⊢
    clear hne
    have H1 := Lib.hid hv1
    have H2 := Lib.hid hv2
    clear hv1 hv2
    go_enter Try.func20, Try.ntmps20
    go_wp2
    go_loopw [5] (fun i wr => ∃ k : Nat, k ≤ xs.length ∧ i = .int .i64 k ∧ xs.take k = ys.take k ∧ Ext w wr) (fun i _ => xs.length - (intOf i).toNat)
    case atStart => exact ⟨0, Nat.zero_le _, rfl, rfl, .refl _⟩
    case round =>
      obtain ⟨k, hk, rfl, he, hq⟩ := hrel
      have HE := Lib.hid he
      have HQ := Lib.hid hq
      clear he hq
      by_cases hlt : k < xs.length
      · obtain ⟨b5, o5, row, a5, c5, hb5, lt5, hrow, hd5, hr5, _⟩ := (H1.out.ext HQ.out).atList k hlt
        cases hb5
        obtain ⟨b6, o6, row2, a6, c6, hb6, lt6, hrow2, hd6, hr6, _⟩ := (H2.out.ext HQ.out).atList k (by have := H.out; omega)
        cases hb6
        clear H1 H2
        go_upto_region 6 with (fail)
        refine wp_region_tab rfl 9 [(17, [17]), (18, [18]), (19, [19]), (20, [20]), (21, [21]), (22, [22]), (23, [23]), (24, [24]), (25, [25])]
          (fun i vs u F => match i, vs with
            | 0, [y] => y = .slice (some ⟨b5, o5, none⟩) xs.length c
            | 1, [y] => y = .int .i64 k
            | 2, [y] => y = .pointer (some ⟨b5, o5 + k, none⟩)
            | 3, [y] => y = .slice a5 row.length c5
            | 4, [y] => y = .slice (some ⟨b6, o6, none⟩) xs.length c2
            | 5, [y] => y = .int .i64 k
            | 6, [y] => y = .pointer (some ⟨b6, o6 + k, none⟩)
            | 7, [y] => y = .slice a6 row2.length c6
            | 8, [y] => y = .bool (Eqb row row2)
            | _, _ => False) (by decide +kernel) ?_ ?_
        · intro i hi o ho U u F hE hd hap
          have e5 := (cell_ext hE lt5).trans hd5
          have e6 := (cell_ext hE lt6).trans hd6
          rcases (by omega : i = 0 ∨ i = 1 ∨ i = 2 ∨ i = 3 ∨ i = 4 ∨ i = 5 ∨ i = 6 ∨ i = 7 ∨ i = 8) with rfl | rfl | rfl | rfl | rfl | rfl | rfl | rfl | rfl
          · cases ho
            simp only [putAll_toArray, put_toArray, List.map_cons, List.map_nil, setL, List.set_cons_succ, List.set_cons_zero, Bd.d, List.getD_cons_succ, List.getD_cons_zero]
            intro K hK
            go_wp2
            exact hK _ [] _ (Ext.refl u) (fun _ _ => rfl) (Own.nil _ _)
          · cases ho
            simp only [putAll_toArray, put_toArray, List.map_cons, List.map_nil, setL, List.set_cons_succ, List.set_cons_zero, Bd.d, List.getD_cons_succ, List.getD_cons_zero]
            intro K hK
            go_wp2
            exact hK _ [] _ (Ext.refl u) (fun _ _ => rfl) (Own.nil _ _)
          · cases ho
            simp only [putAll_toArray, put_toArray, List.map_cons, List.map_nil, setL, List.set_cons_succ, List.set_cons_zero, Bd.d, List.getD_cons_succ, List.getD_cons_zero]
            have d0 := (hd 0 (by decide +kernel)).1
            have d1 := (hd 1 (by decide +kernel)).1
            simp only [Bd.u, List.getD_cons_succ, List.getD_cons_zero, List.map_cons, List.map_nil] at d0 d1
            try simp only [d0, d1]
            clear d0 d1
            intro K hK
            go_wp2
            exact hK _ [] _ (Ext.refl u) (fun _ _ => rfl) (Own.nil _ _)
          · cases ho
            simp only [putAll_toArray, put_toArray, List.map_cons, List.map_nil, setL, List.set_cons_succ, List.set_cons_zero, Bd.d, List.getD_cons_succ, List.getD_cons_zero]
            have d0 := (hd 0 (by decide +kernel)).1
            have d1 := (hd 1 (by decide +kernel)).1
            have d2 := (hd 2 (by decide +kernel)).1
            simp only [Bd.u, List.getD_cons_succ, List.getD_cons_zero, List.map_cons, List.map_nil] at d0 d1 d2
            try simp only [d0, d1, d2]
            clear d0 d1 d2
            intro K hK
            go_wp2
            exact hK _ [] _ (Ext.refl u) (fun _ _ => rfl) (Own.nil _ _)
          · cases ho
            simp only [putAll_toArray, put_toArray, List.map_cons, List.map_nil, setL, List.set_cons_succ, List.set_cons_zero, Bd.d, List.getD_cons_succ, List.getD_cons_zero]
            intro K hK
            go_wp2
            exact hK _ [] _ (Ext.refl u) (fun _ _ => rfl) (Own.nil _ _)
          · cases ho
            simp only [putAll_toArray, put_toArray, List.map_cons, List.map_nil, setL, List.set_cons_succ, List.set_cons_zero, Bd.d, List.getD_cons_succ, List.getD_cons_zero]
            intro K hK
            go_wp2
            exact hK _ [] _ (Ext.refl u) (fun _ _ => rfl) (Own.nil _ _)
          · cases ho
            simp only [putAll_toArray, put_toArray, List.map_cons, List.map_nil, setL, List.set_cons_succ, List.set_cons_zero, Bd.d, List.getD_cons_succ, List.getD_cons_zero]
            have d4 := (hd 4 (by decide +kernel)).1
            have d5 := (hd 5 (by decide +kernel)).1
            simp only [Bd.u, List.getD_cons_succ, List.getD_cons_zero, List.map_cons, List.map_nil] at d4 d5
            try simp only [d4, d5]
            clear d4 d5
            intro K hK
            go_wp2
            exact hK _ [] _ (Ext.refl u) (fun _ _ => rfl) (Own.nil _ _)
          · cases ho
            simp only [putAll_toArray, put_toArray, List.map_cons, List.map_nil, setL, List.set_cons_succ, List.set_cons_zero, Bd.d, List.getD_cons_succ, List.getD_cons_zero]
            have d4 := (hd 4 (by decide +kernel)).1
            have d5 := (hd 5 (by decide +kernel)).1
            have d6 := (hd 6 (by decide +kernel)).1
            simp only [Bd.u, List.getD_cons_succ, List.getD_cons_zero, List.map_cons, List.map_nil] at d4 d5 d6
            try simp only [d4, d5, d6]
            clear d4 d5 d6
            intro K hK
            go_wp2
            exact hK _ [] _ (Ext.refl u) (fun _ _ => rfl) (Own.nil _ _)
          · cases ho
            simp only [putAll_toArray, put_toArray, List.map_cons, List.map_nil, setL, List.set_cons_succ, List.set_cons_zero, Bd.d, List.getD_cons_succ, List.getD_cons_zero]
            have d0 := (hd 0 (by decide +kernel)).1
            have d1 := (hd 1 (by decide +kernel)).1
            have d2 := (hd 2 (by decide +kernel)).1
            have d3 := (hd 3 (by decide +kernel)).1
            have d4 := (hd 4 (by decide +kernel)).1
            have d5 := (hd 5 (by decide +kernel)).1
            have d6 := (hd 6 (by decide +kernel)).1
            have d7 := (hd 7 (by decide +kernel)).1
            simp only [Bd.u, List.getD_cons_succ, List.getD_cons_zero, List.map_cons, List.map_nil] at d0 d1 d2 d3 d4 d5 d6 d7
            try simp only [d0, d1, d2, d3, d4, d5, d6, d7]
            intro K hK
            go_wp2_with (go_at_call 50; refine (law_sameFlags _ _ row row2 _ (hr5.out.ext hE) (hr6.out.ext hE)).mono ?_; rintro e w' ⟨rfl, ex1⟩)
            exact hK _ [] _ ex1 (fun _ h => rfl) (Own.nil _ _)
        · intro oo ho U u2 F hE hφ hap
          cases ho
          simp only [putAll_toArray, put_toArray, List.map_cons, List.map_nil, setL, List.set_cons_succ, List.set_cons_zero, Bd.d, List.getD_cons_succ, List.getD_cons_zero]
          have d0 := (hφ 0 (by omega)).1
          have d1 := (hφ 1 (by omega)).1
          have d2 := (hφ 2 (by omega)).1
          have d3 := (hφ 3 (by omega)).1
          have d4 := (hφ 4 (by omega)).1
          have d5 := (hφ 5 (by omega)).1
          have d6 := (hφ 6 (by omega)).1
          have d7 := (hφ 7 (by omega)).1
          have d8 := (hφ 8 (by omega)).1
          simp only [Bd.u, List.getD_cons_succ, List.getD_cons_zero, List.map_cons, List.map_nil] at d0 d1 d2 d3 d4 d5 d6 d7 d8
          try simp only [d0, d1, d2, d3, d4, d5, d6, d7, d8]
          have HQ2 := Lib.hid (HQ.out.tr hE)
          clear d0 d1 d2 d3 d4 d5 d6 d7 hφ hap hE
          rcases Bool.eq_false_or_eq_true (Eqb row row2) with hx | hx
          · have HX := Lib.hid (Eqb.iff.1 hx)
            go_wp2
            go_roundw
            case rel => exact ⟨k + 1, by omega, by go_num, take_eq_succ hrow.out (HX.out ▸ hrow2.out) HE.out, HQ2.out⟩
            case measure => simp [intOf]; omega
          · have HN := Lib.hid (Eqb.f (ne_at hrow.out hrow2.out (fun h => by rw [Eqb.t h] at hx; cases hx)))
            go_wp2
            go_ret
            exact ⟨wp_cond_ret HN.out.symm, HQ2.out⟩
      · have HN := Lib.hid (Eqb.t (take_eq_all xs ys k H.out (by omega) HE.out))
        clear H1 H2
        go_wp2
        go_ret
        exact ⟨wp_cond_ret HN.out.symm, HQ.out⟩
  · have HN := Lib.hid (Eqb.f (fun h => hne (by rw [h]) : xs ≠ ys))
    have hb : decide (xs.length = ys.length) = false := by simpa using hne
    clear hv1 hv2
    go_enter Try.func20, Try.ntmps20
    go_wp2
    all_goals go_ret
    all_goals exact ⟨wp_cond_ret HN.out.symm, .refl _⟩
end Sk

