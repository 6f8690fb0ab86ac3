/- Contracts of functions of the given program, and lemmas for them: each theorem states the condition under which it holds. -/
import Derived.Test.YtpegmdigobmjeaaChecked
import Derived.Test.YtpegmdigobmjeaaHelp
namespace Sk
open Go Go.Proofs Go.RowKit
set_option maxHeartbeats 400000
set_option maxRecDepth 100000
set_option linter.unusedVariables false
set_option linter.unusedSimpArgs false
theorem eqWindow (v1 v2 : Value) (x y : Window) (w : World) (hv1 : Rv w v1 x) (hv2 : Rv w v2 y) :
   Calls Try.prog 131 #[v1, v2] w fun e w' => e = .returned (.bool (Eqb x y)) ∧ Ext w w' := by
  obtain ⟨rfl, r0, r1⟩ := hv1.openWindow
  obtain ⟨rfl, s0, s1⟩ := hv2.openWindow
  clear hv1 hv2
  go_enter Try.func131, Try.ntmps131
  go_wp2
  all_goals go_ret
  all_goals refine ⟨?_, by repeat (first | exact Ext.refl _ | refine Ext.alloc ?_ _)⟩
  all_goals first
    | (refine wp_cond_ret (Eqb.f ?_).symm; intro hxy; subst hxy; simp_all; done)
    | (refine wp_cond_ret (Eqb.t ?_).symm; cases x; cases y; simp_all; done)
theorem eqChannel (v1 v2 : Value) (x y : Channel) (w : World) (hv1 : Rv w v1 x) (hv2 : Rv w v2 y) :
   Calls Try.prog 88 #[v1, v2] w fun e w' => e = .returned (.bool (Eqb x y)) ∧ Ext w w' := by
  obtain ⟨rfl, r0, r1, r2, r3⟩ := hv1.openChannel
  obtain ⟨rfl, s0, s1, s2, s3⟩ := hv2.openChannel
  clear hv1 hv2
  go_enter Try.func88, Try.ntmps88
  go_wp2
  all_goals go_ret
  all_goals refine ⟨?_, by repeat (first | exact Ext.refl _ | refine Ext.alloc ?_ _)⟩
  all_goals first
    | (refine wp_cond_ret (Eqb.f ?_).symm; intro hxy; subst hxy; simp_all; done)
    | (refine wp_cond_ret (Eqb.t ?_).symm; cases x; cases y; simp_all; done)
theorem eqSlot (v1 v2 : Value) (x y : Slot) (w : World) (hv1 : Rv w v1 x) (hv2 : Rv w v2 y) :
   Calls Try.prog 89 #[v1, v2] w fun e w' => e = .returned (.bool (Eqb x y)) ∧ Ext w w' := by
  obtain ⟨rfl, r0, r1⟩ := hv1.openSlot
  obtain ⟨rfl, s0, s1⟩ := hv2.openSlot
  clear hv1 hv2
  go_enter Try.func89, Try.ntmps89
  go_wp2
  all_goals go_ret
  all_goals refine ⟨?_, by repeat (first | exact Ext.refl _ | refine Ext.alloc ?_ _)⟩
  all_goals first
    | (refine wp_cond_ret (Eqb.f ?_).symm; intro hxy; subst hxy; simp_all; done)
    | (refine wp_cond_ret (Eqb.t ?_).symm; cases x; cases y; simp_all; done)
theorem eqIntS (v1 v2 : Value) (xs ys : List Int) (w : World) (hv1 : Rs w v1 xs) (hv2 : Rs w v2 ys) :
   Calls Try.prog 12 #[v1, v2] w fun e w' => e = .returned (.bool (Eqb xs ys)) ∧ Ext w w' := by
  obtain ⟨a, c, rfl, hl⟩ := hv1.form
  obtain ⟨a2, c2, rfl, hl2⟩ := hv2.form
  by_cases hne : xs.length = ys.length
  · have H := Lib.hid hne
    rw [← hne] at hv2 hl2 ⊢
    clear hne
    have H1 := Lib.hid hv1
    have H2 := Lib.hid hv2
    clear hv1 hv2
    go_enter Try.func12, Try.ntmps12
    go_wp2
    go_loopw [5] (fun i wr => ∃ k : Nat, k ≤ xs.length ∧ i = .int .i64 k ∧ xs.take k = ys.take k ∧ Ext w wr) (fun i _ => xs.length - (intOf i).toNat)
    case atStart => exact ⟨0, Nat.zero_le _, rfl, rfl, .refl _⟩
    case round =>
      obtain ⟨k, hk, rfl, he, hq⟩ := hrel
      have HE := Lib.hid he
      have HQ := Lib.hid hq
      clear he hq
      by_cases hlt : k < xs.length
      · obtain ⟨b, o, x, rfl, _, hx1, hc1, g0⟩ := (H1.out.ext HQ.out).atInt k hlt
        obtain ⟨b2, o2, y, rfl, _, hx2, hc2, g1⟩ := (H2.out.ext HQ.out).atInt k (by have := H.out; omega)
        clear H1 H2
        by_cases hx : x = y
        · have q1 : (x == y) = true := by simpa using hx
          have q2 : (x != y) = false := by simpa using hx
          have hx3 := Lib.hid hx
          clear hx
          go_wp2
          go_quiet (fail)
          go_wp2
          go_roundw
          case rel => exact ⟨k + 1, by omega, by go_num, take_eq_succ hx1.out (by first | exact hx2.out | exact hx3.out ▸ hx2.out) HE.out, HQ.out.drewN _⟩
          case measure => simp [intOf]; omega
        · have hxy : (x == y) = false ∧ (x != y) = true := by simpa using hx
          try obtain ⟨hxy, hxy2⟩ := hxy
          have HN := Lib.hid (Eqb.f (ne_at hx1.out hx2.out hx))
          clear hx
          go_wp2
          go_quiet (fail)
          go_wp2
          go_ret
          exact ⟨wp_cond_ret HN.out.symm, HQ.out.drewN _⟩
      · have HN := Lib.hid (Eqb.t (take_eq_all xs ys k H.out (by omega) HE.out))
        clear H1 H2
        go_wp2
        go_ret
        exact ⟨wp_cond_ret HN.out.symm, HQ.out⟩
  · have HN := Lib.hid (Eqb.f (fun h => hne (by rw [h]) : xs ≠ ys))
    have hb : decide (xs.length = ys.length) = false := by simpa using hne
    clear hv1 hv2
    go_enter Try.func12, Try.ntmps12
    go_wp2
    all_goals go_ret
    all_goals exact ⟨wp_cond_ret HN.out.symm, .refl _⟩
theorem eqWindowS (v1 v2 : Value) (xs ys : List Window) (w : World) (hv1 : Rs w v1 xs) (hv2 : Rs w v2 ys) :
   Calls Try.prog 119 #[v1, v2] w fun e w' => e = .returned (.bool (Eqb xs ys)) ∧ Ext w w' := by
  obtain ⟨a, c, rfl, hl⟩ := hv1.form
  obtain ⟨a2, c2, rfl, hl2⟩ := hv2.form
  by_cases hne : xs.length = ys.length
  · have H := Lib.hid hne
    rw [← hne] at hv2 hl2 ⊢
    clear hne
    have H1 := Lib.hid hv1
    have H2 := Lib.hid hv2
    clear hv1 hv2
    go_enter Try.func119, Try.ntmps119
    go_wp2
    go_loopw [5] (fun i wr => ∃ k : Nat, k ≤ xs.length ∧ i = .int .i64 k ∧ xs.take k = ys.take k ∧ Ext w wr) (fun i _ => xs.length - (intOf i).toNat)
    case atStart => exact ⟨0, Nat.zero_le _, rfl, rfl, .refl _⟩
    case round =>
      obtain ⟨k, hk, rfl, he, hq⟩ := hrel
      have HE := Lib.hid he
      have HQ := Lib.hid hq
      clear he hq
      by_cases hlt : k < xs.length
      · obtain ⟨b, o, x, rfl, _, hx1, hc0, hc1, hc2, g0, g1, hr1⟩ := (H1.out.ext HQ.out).atWindow k hlt
        obtain ⟨b2, o2, y, rfl, _, hx2, hd0, hd1, hd2, f0, f1, hr2⟩ := (H2.out.ext HQ.out).atWindow k (by have := H.out; omega)
        clear H1 H2
        have HX1 := Lib.hid (hr1.out.ext (Ext.refl wr).drew)
        have HX2 := Lib.hid (hr2.out.ext (Ext.refl wr).drew)
        have HQ2 := Lib.hid HQ.out.drew
        go_wp2
        go_still_tail 8, (by kernel_rfl)
        change wpList _ _ _ _ _ wr.drew
        generalize wr.drew = w2 at *
        go_wp2_with fail
        refine (eqWindow _ _ _ _ _ HX1.out HX2.out).mono ?_
        rintro e w3 ⟨rfl, he3⟩
        have HQ3 := Lib.hid (HQ2.out.tr he3)
        clear he3
        cases hx : Eqb x y
        · have HN := Lib.hid (Eqb.f (ne_at hx1.out hx2.out (fun e => by rw [Eqb.t e] at hx; cases hx)))
          go_wp2
          go_ret
          exact ⟨wp_cond_ret HN.out.symm, HQ3.out⟩
        · have HX := Lib.hid (take_eq_succ hx1.out (Eqb.iff.1 hx ▸ hx2.out) HE.out)
          go_wp2
          go_roundw
          case rel => exact ⟨k + 1, by omega, by go_num, HX.out, HQ3.out⟩
          case measure => simp [intOf]; omega
      · have HN := Lib.hid (Eqb.t (take_eq_all xs ys k H.out (by omega) HE.out))
        clear H1 H2
        go_wp2
        go_ret
        exact ⟨wp_cond_ret HN.out.symm, HQ.out⟩
  · have HN := Lib.hid (Eqb.f (fun h => hne (by rw [h]) : xs ≠ ys))
    have hb : decide (xs.length = ys.length) = false := by simpa using hne
    clear hv1 hv2
    go_enter Try.func119, Try.ntmps119
    go_wp2
    all_goals go_ret
    all_goals exact ⟨wp_cond_ret HN.out.symm, .refl _⟩
theorem eqChannelS (v1 v2 : Value) (xs ys : List Channel) (w : World) (hv1 : Rs w v1 xs) (hv2 : Rs w v2 ys) :
   Calls Try.prog 43 #[v1, v2] w fun e w' => e = .returned (.bool (Eqb xs ys)) ∧ Ext w w' := by
  obtain ⟨a, c, rfl, hl⟩ := hv1.form
  obtain ⟨a2, c2, rfl, hl2⟩ := hv2.form
  by_cases hne : xs.length = ys.length
  · have H := Lib.hid hne
    rw [← hne] at hv2 hl2 ⊢
    clear hne
    have H1 := Lib.hid hv1
    have H2 := Lib.hid hv2
    clear hv1 hv2
    go_enter Try.func43, Try.ntmps43
    go_wp2
    go_loopw [5] (fun i wr => ∃ k : Nat, k ≤ xs.length ∧ i = .int .i64 k ∧ xs.take k = ys.take k ∧ Ext w wr) (fun i _ => xs.length - (intOf i).toNat)
    case atStart => exact ⟨0, Nat.zero_le _, rfl, rfl, .refl _⟩
    case round =>
      obtain ⟨k, hk, rfl, he, hq⟩ := hrel
      have HE := Lib.hid he
      have HQ := Lib.hid hq
      clear he hq
      by_cases hlt : k < xs.length
      · obtain ⟨b, o, x, rfl, _, hx1, hc0, hc1, hc2, hc3, g0, g1, g2, g3, hr1⟩ := (H1.out.ext HQ.out).atChannel k hlt
        obtain ⟨b2, o2, y, rfl, _, hx2, hd0, hd1, hd2, hd3, f0, f1, f2, f3, hr2⟩ := (H2.out.ext HQ.out).atChannel k (by have := H.out; omega)
        clear H1 H2
        have HX1 := Lib.hid (hr1.out.ext (Ext.refl wr).drew)
        have HX2 := Lib.hid (hr2.out.ext (Ext.refl wr).drew)
        have HQ2 := Lib.hid HQ.out.drew
        go_wp2
        go_still_tail 8, (by kernel_rfl)
        change wpList _ _ _ _ _ wr.drew
        generalize wr.drew = w2 at *
        go_wp2_with fail
        refine (eqChannel _ _ _ _ _ HX1.out HX2.out).mono ?_
        rintro e w3 ⟨rfl, he3⟩
        have HQ3 := Lib.hid (HQ2.out.tr he3)
        clear he3
        cases hx : Eqb x y
        · have HN := Lib.hid (Eqb.f (ne_at hx1.out hx2.out (fun e => by rw [Eqb.t e] at hx; cases hx)))
          go_wp2
          go_ret
          exact ⟨wp_cond_ret HN.out.symm, HQ3.out⟩
        · have HX := Lib.hid (take_eq_succ hx1.out (Eqb.iff.1 hx ▸ hx2.out) HE.out)
          go_wp2
          go_roundw
          case rel => exact ⟨k + 1, by omega, by go_num, HX.out, HQ3.out⟩
          case measure => simp [intOf]; omega
      · have HN := Lib.hid (Eqb.t (take_eq_all xs ys k H.out (by omega) HE.out))
        clear H1 H2
        go_wp2
        go_ret
        exact ⟨wp_cond_ret HN.out.symm, HQ.out⟩
  · have HN := Lib.hid (Eqb.f (fun h => hne (by rw [h]) : xs ≠ ys))
    have hb : decide (xs.length = ys.length) = false := by simpa using hne
    clear hv1 hv2
    go_enter Try.func43, Try.ntmps43
    go_wp2
    all_goals go_ret
    all_goals exact ⟨wp_cond_ret HN.out.symm, .refl _⟩
theorem eqSlotS (v1 v2 : Value) (xs ys : List Slot) (w : World) (hv1 : Rs w v1 xs) (hv2 : Rs w v2 ys) :
   Calls Try.prog 44 #[v1, v2] w fun e w' => e = .returned (.bool (Eqb xs ys)) ∧ Ext w w' := by
  obtain ⟨a, c, rfl, hl⟩ := hv1.form
  obtain ⟨a2, c2, rfl, hl2⟩ := hv2.form
  by_cases hne : xs.length = ys.length
  · have H := Lib.hid hne
    rw [← hne] at hv2 hl2 ⊢
    clear hne
    have H1 := Lib.hid hv1
    have H2 := Lib.hid hv2
    clear hv1 hv2
    go_enter Try.func44, Try.ntmps44
    go_wp2
    go_loopw [5] (fun i wr => ∃ k : Nat, k ≤ xs.length ∧ i = .int .i64 k ∧ xs.take k = ys.take k ∧ Ext w wr) (fun i _ => xs.length - (intOf i).toNat)
    case atStart => exact ⟨0, Nat.zero_le _, rfl, rfl, .refl _⟩
    case round =>
      obtain ⟨k, hk, rfl, he, hq⟩ := hrel
      have HE := Lib.hid he
      have HQ := Lib.hid hq
      clear he hq
      by_cases hlt : k < xs.length
      · obtain ⟨b, o, x, rfl, _, hx1, hc0, hc1, g0, g1, hr1⟩ := (H1.out.ext HQ.out).atSlot k hlt
        obtain ⟨b2, o2, y, rfl, _, hx2, hd0, hd1, f0, f1, hr2⟩ := (H2.out.ext HQ.out).atSlot k (by have := H.out; omega)
        clear H1 H2
        have HX1 := Lib.hid (hr1.out.ext (Ext.refl wr).drew)
        have HX2 := Lib.hid (hr2.out.ext (Ext.refl wr).drew)
        have HQ2 := Lib.hid HQ.out.drew
        go_wp2
        go_still_tail 8, (by kernel_rfl)
        change wpList _ _ _ _ _ wr.drew
        generalize wr.drew = w2 at *
        go_wp2_with fail
        refine (eqSlot _ _ _ _ _ HX1.out HX2.out).mono ?_
        rintro e w3 ⟨rfl, he3⟩
        have HQ3 := Lib.hid (HQ2.out.tr he3)
        clear he3
        cases hx : Eqb x y
        · have HN := Lib.hid (Eqb.f (ne_at hx1.out hx2.out (fun e => by rw [Eqb.t e] at hx; cases hx)))
          go_wp2
          go_ret
          exact ⟨wp_cond_ret HN.out.symm, HQ3.out⟩
        · have HX := Lib.hid (take_eq_succ hx1.out (Eqb.iff.1 hx ▸ hx2.out) HE.out)
          go_wp2
          go_roundw
          case rel => exact ⟨k + 1, by omega, by go_num, HX.out, HQ3.out⟩
          case measure => simp [intOf]; omega
      · have HN := Lib.hid (Eqb.t (take_eq_all xs ys k H.out (by omega) HE.out))
        clear H1 H2
        go_wp2
        go_ret
        exact ⟨wp_cond_ret HN.out.symm, HQ.out⟩
  · have HN := Lib.hid (Eqb.f (fun h => hne (by rw [h]) : xs ≠ ys))
    have hb : decide (xs.length = ys.length) = false := by simpa using hne
    clear hv1 hv2
    go_enter Try.func44, Try.ntmps44
    go_wp2
    all_goals go_ret
    all_goals exact ⟨wp_cond_ret HN.out.symm, .refl _⟩
theorem eqPart (v1 v2 : Value) (x y : Part) (w : World) (hv1 : Rv w v1 x) (hv2 : Rv w v2 y) :
   Calls Try.prog 87 #[v1, v2] w fun e w' => e = .returned (.bool (Eqb x y)) ∧ Ext w w' := by
  obtain ⟨a0, c0, rfl, r1, h0, l0⟩ := hv1.openPart
  obtain ⟨bb0, d0, rfl, s1, k0, m0⟩ := hv2.openPart
  clear hv1 hv2
  have E0 := Lib.hid (((Ext.refl w).alloc (.cells #[.slice a0 x.Windows.length c0, .int .i64 x.Cells] 61)).alloc (.cells #[.slice bb0 y.Windows.length d0, .int .i64 y.Cells] 61))
  have X0 := Lib.hid (Ext.refl ((w.alloc (.cells #[.slice a0 x.Windows.length c0, .int .i64 x.Cells] 61)).alloc (.cells #[.slice bb0 y.Windows.length d0, .int .i64 y.Cells] 61)))
  go_enter Try.func87, Try.ntmps87
  go_wp2_with fail
  refine (eqWindowS _ _ _ _ _ (h0.out.ext E0.out) (k0.out.ext E0.out)).mono ?_
  rintro e w1 ⟨rfl, he⟩
  have E1 := Lib.hid (E0.out.tr he)
  have X1 := Lib.hid (X0.out.tr he)
  obtain ⟨hcb0, hfb0⟩ := bcell X1.out
  clear he
  cases q0 : Eqb x.Windows y.Windows
  · have HN : Hid (Eqb x y = false) := Lib.hid (Eqb.f (fun e => by rw [Eqb.t (congrArg Part.Windows e)] at q0; cases q0))
    go_wp2
    go_ret
    exact ⟨wp_cond_ret HN.out.symm, E1.out⟩
  · have Q0 := Lib.hid (Eqb.iff.1 q0)
    clear q0
    go_wp2
    all_goals clear hcb0 hfb0 X0 X1
    all_goals go_ret
    all_goals refine ⟨?_, E1.out⟩
    all_goals clear E0 E1
    all_goals clear h0 k0
    all_goals first
      | (refine wp_cond_ret (Eqb.f ?_).symm; intro hxy; subst hxy; simp_all; done)
      | (refine wp_cond_ret (Eqb.t ?_).symm; have z0 := Q0.out; cases x; cases y; simp_all; done)
theorem eqPartS (v1 v2 : Value) (xs ys : List Part) (w : World) (hv1 : Rs w v1 xs) (hv2 : Rs w v2 ys) :
   Calls Try.prog 42 #[v1, v2] w fun e w' => e = .returned (.bool (Eqb xs ys)) ∧ Ext w w' := by
  obtain ⟨a, c, rfl, hl⟩ := hv1.form
  obtain ⟨a2, c2, rfl, hl2⟩ := hv2.form
  by_cases hne : xs.length = ys.length
  · have H := Lib.hid hne
    rw [← hne] at hv2 hl2 ⊢
    clear hne
    have H1 := Lib.hid hv1
    have H2 := Lib.hid hv2
    clear hv1 hv2
    go_enter Try.func42, Try.ntmps42
    go_wp2
    go_loopw [5] (fun i wr => ∃ k : Nat, k ≤ xs.length ∧ i = .int .i64 k ∧ xs.take k = ys.take k ∧ Ext w wr) (fun i _ => xs.length - (intOf i).toNat)
    case atStart => exact ⟨0, Nat.zero_le _, rfl, rfl, .refl _⟩
    case round =>
      obtain ⟨k, hk, rfl, he, hq⟩ := hrel
      have HE := Lib.hid he
      have HQ := Lib.hid hq
      clear he hq
      by_cases hlt : k < xs.length
      · obtain ⟨b, o, x, a0, c0, rfl, _, hx1, hc0, hc1, g1, h0, l0, hr1⟩ := (H1.out.ext HQ.out).atPart k hlt
        obtain ⟨b2, o2, y, bb0, d0, rfl, _, hx2, hd0, hd1, f1, k0, m0, hr2⟩ := (H2.out.ext HQ.out).atPart k (by have := H.out; omega)
        clear H1 H2
        have HX1 := Lib.hid (hr1.out.ext (Ext.refl wr).drew)
        have HX2 := Lib.hid (hr2.out.ext (Ext.refl wr).drew)
        have HQ2 := Lib.hid HQ.out.drew
        go_wp2
        go_still_tail 8, (by kernel_rfl)
        change wpList _ _ _ _ _ wr.drew
        generalize wr.drew = w2 at *
        go_wp2_with fail
        refine (eqPart _ _ _ _ _ HX1.out HX2.out).mono ?_
        rintro e w3 ⟨rfl, he3⟩
        have HQ3 := Lib.hid (HQ2.out.tr he3)
        clear he3
        cases hx : Eqb x y
        · have HN := Lib.hid (Eqb.f (ne_at hx1.out hx2.out (fun e => by rw [Eqb.t e] at hx; cases hx)))
          go_wp2
          go_ret
          exact ⟨wp_cond_ret HN.out.symm, HQ3.out⟩
        · have HX := Lib.hid (take_eq_succ hx1.out (Eqb.iff.1 hx ▸ hx2.out) HE.out)
          go_wp2
          go_roundw
          case rel => exact ⟨k + 1, by omega, by go_num, HX.out, HQ3.out⟩
          case measure => simp [intOf]; omega
      · have HN := Lib.hid (Eqb.t (take_eq_all xs ys k H.out (by omega) HE.out))
        clear H1 H2
        go_wp2
        go_ret
        exact ⟨wp_cond_ret HN.out.symm, HQ.out⟩
  · have HN := Lib.hid (Eqb.f (fun h => hne (by rw [h]) : xs ≠ ys))
    have hb : decide (xs.length = ys.length) = false := by simpa using hne
    clear hv1 hv2
    go_enter Try.func42, Try.ntmps42
    go_wp2
    all_goals go_ret
    all_goals exact ⟨wp_cond_ret HN.out.symm, .refl _⟩
theorem eqSetup (v1 v2 : Value) (x y : Setup) (w : World) (hv1 : Rv w v1 x) (hv2 : Rv w v2 y) :
   Calls Try.prog 11 #[v1, v2] w fun e w' => e = .returned (.bool (Eqb x y)) ∧ Ext w w' := by
  obtain ⟨a0, c0, a1, c1, a2, c2, rfl, h0, l0, h1, l1, h2, l2⟩ := hv1.openSetup
  obtain ⟨bb0, d0, bb1, d1, bb2, d2, rfl, k0, m0, k1, m1, k2, m2⟩ := hv2.openSetup
  clear hv1 hv2
  have E0 := Lib.hid (((Ext.refl w).alloc (.cells #[.slice a0 x.Parts.length c0, .slice a1 x.Channels.length c1, .slice a2 x.Slots.length c2] 27)).alloc (.cells #[.slice bb0 y.Parts.length d0, .slice bb1 y.Channels.length d1, .slice bb2 y.Slots.length d2] 27))
  have X0 := Lib.hid (Ext.refl ((w.alloc (.cells #[.slice a0 x.Parts.length c0, .slice a1 x.Channels.length c1, .slice a2 x.Slots.length c2] 27)).alloc (.cells #[.slice bb0 y.Parts.length d0, .slice bb1 y.Channels.length d1, .slice bb2 y.Slots.length d2] 27)))
  go_enter Try.func11, Try.ntmps11
  go_wp2_with fail
  refine (eqPartS _ _ _ _ _ (h0.out.ext E0.out) (k0.out.ext E0.out)).mono ?_
  rintro e w1 ⟨rfl, he⟩
  have E1 := Lib.hid (E0.out.tr he)
  have X1 := Lib.hid (X0.out.tr he)
  obtain ⟨hcb0, hfb0⟩ := bcell X1.out
  clear he
  cases q0 : Eqb x.Parts y.Parts
  · have HN : Hid (Eqb x y = false) := Lib.hid (Eqb.f (fun e => by rw [Eqb.t (congrArg Setup.Parts e)] at q0; cases q0))
    go_wp2
    go_ret
    exact ⟨wp_cond_ret HN.out.symm, E1.out⟩
  · have Q0 := Lib.hid (Eqb.iff.1 q0)
    clear q0
    go_wp2_with fail
    refine (eqChannelS _ _ _ _ _ (h1.out.ext E1.out) (k1.out.ext E1.out)).mono ?_
    rintro e w2 ⟨rfl, he⟩
    have E2 := Lib.hid (E1.out.tr he)
    have X2 := Lib.hid (X1.out.tr he)
    clear hcb0 hfb0
    obtain ⟨hcb1, hfb1⟩ := bcell X2.out
    clear he
    cases q1 : Eqb x.Channels y.Channels
    · have HN : Hid (Eqb x y = false) := Lib.hid (Eqb.f (fun e => by rw [Eqb.t (congrArg Setup.Channels e)] at q1; cases q1))
      go_wp2
      go_ret
      exact ⟨wp_cond_ret HN.out.symm, E2.out⟩
    · have Q1 := Lib.hid (Eqb.iff.1 q1)
      clear q1
      go_wp2_with fail
      refine (eqSlotS _ _ _ _ _ (h2.out.ext E2.out) (k2.out.ext E2.out)).mono ?_
      rintro e w3 ⟨rfl, he⟩
      have E3 := Lib.hid (E2.out.tr he)
      have X3 := Lib.hid (X2.out.tr he)
      clear hcb1 hfb1
      obtain ⟨hcb2, hfb2⟩ := bcell X3.out
      clear he
      cases q2 : Eqb x.Slots y.Slots
      · have HN : Hid (Eqb x y = false) := Lib.hid (Eqb.f (fun e => by rw [Eqb.t (congrArg Setup.Slots e)] at q2; cases q2))
        go_wp2
        go_ret
        exact ⟨wp_cond_ret HN.out.symm, E3.out⟩
      · have Q2 := Lib.hid (Eqb.iff.1 q2)
        clear q2
        go_wp2
        all_goals clear hcb2 hfb2 X0 X1 X2 X3
        all_goals go_ret
        all_goals refine ⟨?_, E3.out⟩
        all_goals clear E0 E1 E2 E3
        all_goals clear h0 k0 h1 k1 h2 k2
        all_goals first
          | (refine wp_cond_ret (Eqb.f ?_).symm; intro hxy; subst hxy; simp_all; done)
          | (refine wp_cond_ret (Eqb.t ?_).symm; have z0 := Q0.out; have z1 := Q1.out; have z2 := Q2.out; cases x; cases y; simp_all; done)
end Sk

