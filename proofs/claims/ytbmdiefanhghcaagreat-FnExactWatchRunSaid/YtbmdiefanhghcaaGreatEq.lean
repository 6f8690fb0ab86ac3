/- Contracts of functions of the given program, each under the condition that it states. -/
import Derived.Test.YtbmdiefanhghcaaGreatChecked
import Derived.Test.YtbmdiefanhghcaaGreatChan
namespace Sk
open Go Go.Proofs Go.RowKit
set_option maxHeartbeats 400000
set_option maxRecDepth 100000
set_option linter.unusedVariables false
set_option linter.unusedSimpArgs false
theorem eqWindow (v1 v2 : Value) (x y : Window) (w : World) (hv1 : Rv w v1 x) (hv2 : Rv w v2 y) :
  Calls Tryz.prog 258 #[v1, v2] w fun e w' => e = .returned (.bool (Eqb x y)) ∧ Ext w w' := by
 obtain ⟨rfl, r0, r1⟩ := hv1.openWindow
 obtain ⟨rfl, s0, s1⟩ := hv2.openWindow
 clear hv1 hv2
 go_enter Tryz.func258, Tryz.ntmps258
 go_wp2
 all_goals go_ret
 all_goals refine ⟨?_, by repeat (first | exact Ext.refl _ | refine Ext.alloc ?_ _)⟩
 all_goals first
  | (refine wp_cond_ret (Eqb.f ?_).symm; intro hxy; subst hxy; simp_all; done)
  | (refine wp_cond_ret (Eqb.t ?_).symm; cases x; cases y; simp_all; done)
theorem eqChannel (v1 v2 : Value) (x y : Channel) (w : World) (hv1 : Rv w v1 x) (hv2 : Rv w v2 y) :
  Calls Tryz.prog 208 #[v1, v2] w fun e w' => e = .returned (.bool (Eqb x y)) ∧ Ext w w' := by
 obtain ⟨rfl, r0, r1, r2, r3⟩ := hv1.openChannel
 obtain ⟨rfl, s0, s1, s2, s3⟩ := hv2.openChannel
 clear hv1 hv2
 go_enter Tryz.func208, Tryz.ntmps208
 go_wp2
 all_goals go_ret
 all_goals refine ⟨?_, by repeat (first | exact Ext.refl _ | refine Ext.alloc ?_ _)⟩
 all_goals first
  | (refine wp_cond_ret (Eqb.f ?_).symm; intro hxy; subst hxy; simp_all; done)
  | (refine wp_cond_ret (Eqb.t ?_).symm; cases x; cases y; simp_all; done)
theorem eqSlot (v1 v2 : Value) (x y : Slot) (w : World) (hv1 : Rv w v1 x) (hv2 : Rv w v2 y) :
  Calls Tryz.prog 209 #[v1, v2] w fun e w' => e = .returned (.bool (Eqb x y)) ∧ Ext w w' := by
 obtain ⟨rfl, r0, r1⟩ := hv1.openSlot
 obtain ⟨rfl, s0, s1⟩ := hv2.openSlot
 clear hv1 hv2
 go_enter Tryz.func209, Tryz.ntmps209
 go_wp2
 all_goals go_ret
 all_goals refine ⟨?_, by repeat (first | exact Ext.refl _ | refine Ext.alloc ?_ _)⟩
 all_goals first
  | (refine wp_cond_ret (Eqb.f ?_).symm; intro hxy; subst hxy; simp_all; done)
  | (refine wp_cond_ret (Eqb.t ?_).symm; cases x; cases y; simp_all; done)
theorem eqOrder (v1 v2 : Value) (x y : Order) (w : World) (hv1 : Rv w v1 x) (hv2 : Rv w v2 y) :
  Calls Tryz.prog 210 #[v1, v2] w fun e w' => e = .returned (.bool (Eqb x y)) ∧ Ext w w' := by
 obtain ⟨rfl, r0, r1, r2⟩ := hv1.openOrder
 obtain ⟨rfl, s0, s1, s2⟩ := hv2.openOrder
 clear hv1 hv2
 go_enter Tryz.func210, Tryz.ntmps210
 go_wp2
 all_goals go_ret
 all_goals refine ⟨?_, by repeat (first | exact Ext.refl _ | refine Ext.alloc ?_ _)⟩
 all_goals first
  | (refine wp_cond_ret (Eqb.f ?_).symm; intro hxy; subst hxy; simp_all; done)
  | (refine wp_cond_ret (Eqb.t ?_).symm; cases x; cases y; simp_all; done)
theorem eqHealth (v1 v2 : Value) (x y : Health) (w : World) (hv1 : Rv w v1 x) (hv2 : Rv w v2 y) :
  Calls Tryz.prog 89 #[v1, v2] w fun e w' => e = .returned (.bool (Eqb x y)) ∧ Ext w w' := by
 obtain ⟨rfl, r1⟩ := hv1.openHealth
 obtain ⟨rfl, s1⟩ := hv2.openHealth
 clear hv1 hv2
 go_enter Tryz.func89, Tryz.ntmps89
 go_wp2
 all_goals go_ret
 all_goals refine ⟨?_, by repeat (first | exact Ext.refl _ | refine Ext.alloc ?_ _)⟩
 all_goals first
  | (refine wp_cond_ret (Eqb.f ?_).symm; intro hxy; subst hxy; simp_all; done)
  | (refine wp_cond_ret (Eqb.t ?_).symm; cases x; cases y; simp_all; done)
theorem eqIntS (v1 v2 : Value) (xs ys : List Int) (w : World) (hv1 : Rs w v1 xs) (hv2 : Rs w v2 ys) :
  Calls Tryz.prog 14 #[v1, v2] w fun e w' => e = .returned (.bool (Eqb xs ys)) ∧ Ext w w' := by
 obtain ⟨a, c, rfl, hl⟩ := hv1.form
 obtain ⟨a2, c2, rfl, hl2⟩ := hv2.form
 by_cases hne : xs.length = ys.length
 ·have H := zh hne
  rw [← hne] at hv2 hl2 ⊢
  clear hne
  have H1 := zh hv1
  have H2 := zh hv2
  clear hv1 hv2
  go_enter Tryz.func14, Tryz.ntmps14
  go_wp2
  go_loopw [5] (fun i wr => ∃ k : Nat, k ≤ xs.length ∧ i = .int .i64 k ∧ xs.take k = ys.take k ∧ Ext w wr) (fun i _ => xs.length - (intOf i).toNat)
  case atStart => exact ⟨0, Nat.zero_le _, rfl, rfl, .refl _⟩
  case round =>
   obtain ⟨k, hk, rfl, he, hq⟩ := hrel
   have HE := zh he
   have HQ := zh hq
   clear he hq
   by_cases hlt : k < xs.length
   ·obtain ⟨b, o, x, rfl, _, hx1, hc1, g0⟩ := (H1.out.ext HQ.out).atInt k hlt
    obtain ⟨b2, o2, y, rfl, _, hx2, hc2, g1⟩ := (H2.out.ext HQ.out).atInt k (by have := H.out; omega)
    clear H1 H2
    by_cases hx : x = y
    ·have q1 : (x == y) = true := by simpa using hx
     have q2 : (x != y) = false := by simpa using hx
     have hx3 := zh hx
     clear hx
     go_wp2
     go_quiet (fail)
     go_wp2
     go_roundw
     case rel => exact ⟨k + 1, by omega, by go_num, take_eq_succ hx1.out (by first | exact hx2.out | exact hx3.out ▸ hx2.out) HE.out, HQ.out.drewN _⟩
     case measure => simp [intOf]; omega
    ·have hxy : (x == y) = false ∧ (x != y) = true := by simpa using hx
     try obtain ⟨hxy, hxy2⟩ := hxy
     have HN := zh (Eqb.f (ne_at hx1.out hx2.out hx))
     clear hx
     go_wp2
     go_quiet (fail)
     go_wp2
     go_ret
     exact ⟨wp_cond_ret HN.out.symm, HQ.out.drewN _⟩
   ·have HN := zh (Eqb.t (take_eq_all xs ys k H.out (by omega) HE.out))
    clear H1 H2
    go_wp2
    go_ret
    exact ⟨wp_cond_ret HN.out.symm, HQ.out⟩
 ·have HN := zh (Eqb.f (fun h => hne (by rw [h]) : xs ≠ ys))
  have hb : decide (xs.length = ys.length) = false := by simpa using hne
  clear hv1 hv2
  go_enter Tryz.func14, Tryz.ntmps14
  go_wp2
  all_goals go_ret
  all_goals exact ⟨wp_cond_ret HN.out.symm, .refl _⟩
theorem eqWindowS (v1 v2 : Value) (xs ys : List Window) (w : World) (hv1 : Rs w v1 xs) (hv2 : Rs w v2 ys) :
  Calls Tryz.prog 237 #[v1, v2] w fun e w' => e = .returned (.bool (Eqb xs ys)) ∧ Ext w w' := by
 obtain ⟨a, c, rfl, hl⟩ := hv1.form
 obtain ⟨a2, c2, rfl, hl2⟩ := hv2.form
 by_cases hne : xs.length = ys.length
 ·have H := zh hne
  rw [← hne] at hv2 hl2 ⊢
  clear hne
  have H1 := zh hv1
  have H2 := zh hv2
  clear hv1 hv2
  go_enter Tryz.func237, Tryz.ntmps237
  go_wp2
  go_loopw [5] (fun i wr => ∃ k : Nat, k ≤ xs.length ∧ i = .int .i64 k ∧ xs.take k = ys.take k ∧ Ext w wr) (fun i _ => xs.length - (intOf i).toNat)
  case atStart => exact ⟨0, Nat.zero_le _, rfl, rfl, .refl _⟩
  case round =>
   obtain ⟨k, hk, rfl, he, hq⟩ := hrel
   have HE := zh he
   have HQ := zh hq
   clear he hq
   by_cases hlt : k < xs.length
   ·obtain ⟨b, o, x, rfl, _, hx1, hc0, hc1, hc2, g0, g1, hr1⟩ := (H1.out.ext HQ.out).atWindow k hlt
    obtain ⟨b2, o2, y, rfl, _, hx2, hd0, hd1, hd2, f0, f1, hr2⟩ := (H2.out.ext HQ.out).atWindow k (by have := H.out; omega)
    clear H1 H2
    have HX1 := zh (hr1.out.ext (Ext.refl wr).drew)
    have HX2 := zh (hr2.out.ext (Ext.refl wr).drew)
    have HQ2 := zh HQ.out.drew
    go_wp2
    go_still_tail 8, (by kernel_rfl)
    change wpList _ _ _ _ _ wr.drew
    generalize wr.drew = w2 at *
    go_wp2_with fail
    refine (eqWindow _ _ _ _ _ HX1.out HX2.out).mono ?_
    rintro e w3 ⟨rfl, he3⟩
    have HQ3 := zh (HQ2.out.tr he3)
    clear he3
    cases hx : Eqb x y
    ·have HN := zh (Eqb.f (ne_at hx1.out hx2.out (fun e => by rw [Eqb.t e] at hx; cases hx)))
     go_wp2
     go_ret
     exact ⟨wp_cond_ret HN.out.symm, HQ3.out⟩
    ·have HX := zh (take_eq_succ hx1.out (Eqb.iff.1 hx ▸ hx2.out) HE.out)
     go_wp2
     go_roundw
     case rel => exact ⟨k + 1, by omega, by go_num, HX.out, HQ3.out⟩
     case measure => simp [intOf]; omega
   ·have HN := zh (Eqb.t (take_eq_all xs ys k H.out (by omega) HE.out))
    clear H1 H2
    go_wp2
    go_ret
    exact ⟨wp_cond_ret HN.out.symm, HQ.out⟩
 ·have HN := zh (Eqb.f (fun h => hne (by rw [h]) : xs ≠ ys))
  have hb : decide (xs.length = ys.length) = false := by simpa using hne
  clear hv1 hv2
  go_enter Tryz.func237, Tryz.ntmps237
  go_wp2
  all_goals go_ret
  all_goals exact ⟨wp_cond_ret HN.out.symm, .refl _⟩
theorem eqChannelS (v1 v2 : Value) (xs ys : List Channel) (w : World) (hv1 : Rs w v1 xs) (hv2 : Rs w v2 ys) :
  Calls Tryz.prog 152 #[v1, v2] w fun e w' => e = .returned (.bool (Eqb xs ys)) ∧ Ext w w' := by
 obtain ⟨a, c, rfl, hl⟩ := hv1.form
 obtain ⟨a2, c2, rfl, hl2⟩ := hv2.form
 by_cases hne : xs.length = ys.length
 ·have H := zh hne
  rw [← hne] at hv2 hl2 ⊢
  clear hne
  have H1 := zh hv1
  have H2 := zh hv2
  clear hv1 hv2
  go_enter Tryz.func152, Tryz.ntmps152
  go_wp2
  go_loopw [5] (fun i wr => ∃ k : Nat, k ≤ xs.length ∧ i = .int .i64 k ∧ xs.take k = ys.take k ∧ Ext w wr) (fun i _ => xs.length - (intOf i).toNat)
  case atStart => exact ⟨0, Nat.zero_le _, rfl, rfl, .refl _⟩
  case round =>
   obtain ⟨k, hk, rfl, he, hq⟩ := hrel
   have HE := zh he
   have HQ := zh hq
   clear he hq
   by_cases hlt : k < xs.length
   ·obtain ⟨b, o, x, rfl, _, hx1, hc0, hc1, hc2, hc3, g0, g1, g2, g3, hr1⟩ := (H1.out.ext HQ.out).atChannel k hlt
    obtain ⟨b2, o2, y, rfl, _, hx2, hd0, hd1, hd2, hd3, f0, f1, f2, f3, hr2⟩ := (H2.out.ext HQ.out).atChannel k (by have := H.out; omega)
    clear H1 H2
    have HX1 := zh (hr1.out.ext (Ext.refl wr).drew)
    have HX2 := zh (hr2.out.ext (Ext.refl wr).drew)
    have HQ2 := zh HQ.out.drew
    go_wp2
    go_still_tail 8, (by kernel_rfl)
    change wpList _ _ _ _ _ wr.drew
    generalize wr.drew = w2 at *
    go_wp2_with fail
    refine (eqChannel _ _ _ _ _ HX1.out HX2.out).mono ?_
    rintro e w3 ⟨rfl, he3⟩
    have HQ3 := zh (HQ2.out.tr he3)
    clear he3
    cases hx : Eqb x y
    ·have HN := zh (Eqb.f (ne_at hx1.out hx2.out (fun e => by rw [Eqb.t e] at hx; cases hx)))
     go_wp2
     go_ret
     exact ⟨wp_cond_ret HN.out.symm, HQ3.out⟩
    ·have HX := zh (take_eq_succ hx1.out (Eqb.iff.1 hx ▸ hx2.out) HE.out)
     go_wp2
     go_roundw
     case rel => exact ⟨k + 1, by omega, by go_num, HX.out, HQ3.out⟩
     case measure => simp [intOf]; omega
   ·have HN := zh (Eqb.t (take_eq_all xs ys k H.out (by omega) HE.out))
    clear H1 H2
    go_wp2
    go_ret
    exact ⟨wp_cond_ret HN.out.symm, HQ.out⟩
 ·have HN := zh (Eqb.f (fun h => hne (by rw [h]) : xs ≠ ys))
  have hb : decide (xs.length = ys.length) = false := by simpa using hne
  clear hv1 hv2
  go_enter Tryz.func152, Tryz.ntmps152
  go_wp2
  all_goals go_ret
  all_goals exact ⟨wp_cond_ret HN.out.symm, .refl _⟩
theorem eqSlotS (v1 v2 : Value) (xs ys : List Slot) (w : World) (hv1 : Rs w v1 xs) (hv2 : Rs w v2 ys) :
  Calls Tryz.prog 153 #[v1, v2] w fun e w' => e = .returned (.bool (Eqb xs ys)) ∧ Ext w w' := by
 obtain ⟨a, c, rfl, hl⟩ := hv1.form
 obtain ⟨a2, c2, rfl, hl2⟩ := hv2.form
 by_cases hne : xs.length = ys.length
 ·have H := zh hne
  rw [← hne] at hv2 hl2 ⊢
  clear hne
  have H1 := zh hv1
  have H2 := zh hv2
  clear hv1 hv2
  go_enter Tryz.func153, Tryz.ntmps153
  go_wp2
  go_loopw [5] (fun i wr => ∃ k : Nat, k ≤ xs.length ∧ i = .int .i64 k ∧ xs.take k = ys.take k ∧ Ext w wr) (fun i _ => xs.length - (intOf i).toNat)
  case atStart => exact ⟨0, Nat.zero_le _, rfl, rfl, .refl _⟩
  case round =>
   obtain ⟨k, hk, rfl, he, hq⟩ := hrel
   have HE := zh he
   have HQ := zh hq
   clear he hq
   by_cases hlt : k < xs.length
   ·obtain ⟨b, o, x, rfl, _, hx1, hc0, hc1, g0, g1, hr1⟩ := (H1.out.ext HQ.out).atSlot k hlt
    obtain ⟨b2, o2, y, rfl, _, hx2, hd0, hd1, f0, f1, hr2⟩ := (H2.out.ext HQ.out).atSlot k (by have := H.out; omega)
    clear H1 H2
    have HX1 := zh (hr1.out.ext (Ext.refl wr).drew)
    have HX2 := zh (hr2.out.ext (Ext.refl wr).drew)
    have HQ2 := zh HQ.out.drew
    go_wp2
    go_still_tail 8, (by kernel_rfl)
    change wpList _ _ _ _ _ wr.drew
    generalize wr.drew = w2 at *
    go_wp2_with fail
    refine (eqSlot _ _ _ _ _ HX1.out HX2.out).mono ?_
    rintro e w3 ⟨rfl, he3⟩
    have HQ3 := zh (HQ2.out.tr he3)
    clear he3
    cases hx : Eqb x y
    ·have HN := zh (Eqb.f (ne_at hx1.out hx2.out (fun e => by rw [Eqb.t e] at hx; cases hx)))
     go_wp2
     go_ret
     exact ⟨wp_cond_ret HN.out.symm, HQ3.out⟩
    ·have HX := zh (take_eq_succ hx1.out (Eqb.iff.1 hx ▸ hx2.out) HE.out)
     go_wp2
     go_roundw
     case rel => exact ⟨k + 1, by omega, by go_num, HX.out, HQ3.out⟩
     case measure => simp [intOf]; omega
   ·have HN := zh (Eqb.t (take_eq_all xs ys k H.out (by omega) HE.out))
    clear H1 H2
    go_wp2
    go_ret
    exact ⟨wp_cond_ret HN.out.symm, HQ.out⟩
 ·have HN := zh (Eqb.f (fun h => hne (by rw [h]) : xs ≠ ys))
  have hb : decide (xs.length = ys.length) = false := by simpa using hne
  clear hv1 hv2
  go_enter Tryz.func153, Tryz.ntmps153
  go_wp2
  all_goals go_ret
  all_goals exact ⟨wp_cond_ret HN.out.symm, .refl _⟩
theorem eqOrderS (v1 v2 : Value) (xs ys : List Order) (w : World) (hv1 : Rs w v1 xs) (hv2 : Rs w v2 ys) :
  Calls Tryz.prog 154 #[v1, v2] w fun e w' => e = .returned (.bool (Eqb xs ys)) ∧ Ext w w' := by
 obtain ⟨a, c, rfl, hl⟩ := hv1.form
 obtain ⟨a2, c2, rfl, hl2⟩ := hv2.form
 by_cases hne : xs.length = ys.length
 ·have H := zh hne
  rw [← hne] at hv2 hl2 ⊢
  clear hne
  have H1 := zh hv1
  have H2 := zh hv2
  clear hv1 hv2
  go_enter Tryz.func154, Tryz.ntmps154
  go_wp2
  go_loopw [5] (fun i wr => ∃ k : Nat, k ≤ xs.length ∧ i = .int .i64 k ∧ xs.take k = ys.take k ∧ Ext w wr) (fun i _ => xs.length - (intOf i).toNat)
  case atStart => exact ⟨0, Nat.zero_le _, rfl, rfl, .refl _⟩
  case round =>
   obtain ⟨k, hk, rfl, he, hq⟩ := hrel
   have HE := zh he
   have HQ := zh hq
   clear he hq
   by_cases hlt : k < xs.length
   ·obtain ⟨b, o, x, rfl, _, hx1, hc0, hc1, hc2, g0, g1, g2, hr1⟩ := (H1.out.ext HQ.out).atOrder k hlt
    obtain ⟨b2, o2, y, rfl, _, hx2, hd0, hd1, hd2, f0, f1, f2, hr2⟩ := (H2.out.ext HQ.out).atOrder k (by have := H.out; omega)
    clear H1 H2
    have HX1 := zh (hr1.out.ext (Ext.refl wr).drew)
    have HX2 := zh (hr2.out.ext (Ext.refl wr).drew)
    have HQ2 := zh HQ.out.drew
    go_wp2
    go_still_tail 8, (by kernel_rfl)
    change wpList _ _ _ _ _ wr.drew
    generalize wr.drew = w2 at *
    go_wp2_with fail
    refine (eqOrder _ _ _ _ _ HX1.out HX2.out).mono ?_
    rintro e w3 ⟨rfl, he3⟩
    have HQ3 := zh (HQ2.out.tr he3)
    clear he3
    cases hx : Eqb x y
    ·have HN := zh (Eqb.f (ne_at hx1.out hx2.out (fun e => by rw [Eqb.t e] at hx; cases hx)))
     go_wp2
     go_ret
     exact ⟨wp_cond_ret HN.out.symm, HQ3.out⟩
    ·have HX := zh (take_eq_succ hx1.out (Eqb.iff.1 hx ▸ hx2.out) HE.out)
     go_wp2
     go_roundw
     case rel => exact ⟨k + 1, by omega, by go_num, HX.out, HQ3.out⟩
     case measure => simp [intOf]; omega
   ·have HN := zh (Eqb.t (take_eq_all xs ys k H.out (by omega) HE.out))
    clear H1 H2
    go_wp2
    go_ret
    exact ⟨wp_cond_ret HN.out.symm, HQ.out⟩
 ·have HN := zh (Eqb.f (fun h => hne (by rw [h]) : xs ≠ ys))
  have hb : decide (xs.length = ys.length) = false := by simpa using hne
  clear hv1 hv2
  go_enter Tryz.func154, Tryz.ntmps154
  go_wp2
  all_goals go_ret
  all_goals exact ⟨wp_cond_ret HN.out.symm, .refl _⟩
theorem eqHealthS (v1 v2 : Value) (xs ys : List Health) (w : World) (hv1 : Rs w v1 xs) (hv2 : Rs w v2 ys) :
  Calls Tryz.prog 41 #[v1, v2] w fun e w' => e = .returned (.bool (Eqb xs ys)) ∧ Ext w w' := by
 obtain ⟨a, c, rfl, hl⟩ := hv1.form
 obtain ⟨a2, c2, rfl, hl2⟩ := hv2.form
 by_cases hne : xs.length = ys.length
 ·have H := zh hne
  rw [← hne] at hv2 hl2 ⊢
  clear hne
  have H1 := zh hv1
  have H2 := zh hv2
  clear hv1 hv2
  go_enter Tryz.func41, Tryz.ntmps41
  go_wp2
  go_loopw [5] (fun i wr => ∃ k : Nat, k ≤ xs.length ∧ i = .int .i64 k ∧ xs.take k = ys.take k ∧ Ext w wr) (fun i _ => xs.length - (intOf i).toNat)
  case atStart => exact ⟨0, Nat.zero_le _, rfl, rfl, .refl _⟩
  case round =>
   obtain ⟨k, hk, rfl, he, hq⟩ := hrel
   have HE := zh he
   have HQ := zh hq
   clear he hq
   by_cases hlt : k < xs.length
   ·obtain ⟨b, o, x, rfl, _, hx1, hc0, hc1, g1, hr1⟩ := (H1.out.ext HQ.out).atHealth k hlt
    obtain ⟨b2, o2, y, rfl, _, hx2, hd0, hd1, f1, hr2⟩ := (H2.out.ext HQ.out).atHealth k (by have := H.out; omega)
    clear H1 H2
    have HX1 := zh (hr1.out.ext (Ext.refl wr).drew)
    have HX2 := zh (hr2.out.ext (Ext.refl wr).drew)
    have HQ2 := zh HQ.out.drew
    go_wp2
    go_still_tail 8, (by kernel_rfl)
    change wpList _ _ _ _ _ wr.drew
    generalize wr.drew = w2 at *
    go_wp2_with fail
    refine (eqHealth _ _ _ _ _ HX1.out HX2.out).mono ?_
    rintro e w3 ⟨rfl, he3⟩
    have HQ3 := zh (HQ2.out.tr he3)
    clear he3
    cases hx : Eqb x y
    ·have HN := zh (Eqb.f (ne_at hx1.out hx2.out (fun e => by rw [Eqb.t e] at hx; cases hx)))
     go_wp2
     go_ret
     exact ⟨wp_cond_ret HN.out.symm, HQ3.out⟩
    ·have HX := zh (take_eq_succ hx1.out (Eqb.iff.1 hx ▸ hx2.out) HE.out)
     go_wp2
     go_roundw
     case rel => exact ⟨k + 1, by omega, by go_num, HX.out, HQ3.out⟩
     case measure => simp [intOf]; omega
   ·have HN := zh (Eqb.t (take_eq_all xs ys k H.out (by omega) HE.out))
    clear H1 H2
    go_wp2
    go_ret
    exact ⟨wp_cond_ret HN.out.symm, HQ.out⟩
 ·have HN := zh (Eqb.f (fun h => hne (by rw [h]) : xs ≠ ys))
  have hb : decide (xs.length = ys.length) = false := by simpa using hne
  clear hv1 hv2
  go_enter Tryz.func41, Tryz.ntmps41
  go_wp2
  all_goals go_ret
  all_goals exact ⟨wp_cond_ret HN.out.symm, .refl _⟩
theorem eqOrderSS (v1 v2 : Value) (xs ys : List (List Order)) (w : World) (hv1 : Rs w v1 xs) (hv2 : Rs w v2 ys) :
  Calls Tryz.prog 86 #[v1, v2] w fun e w' => e = .returned (.bool (Eqb xs ys)) ∧ Ext w w' := by
 obtain ⟨a, c, rfl, hl⟩ := hv1.form
 obtain ⟨a2, c2, rfl, hl2⟩ := hv2.form
 by_cases hne : xs.length = ys.length
 ·have H := zh hne
  rw [← hne] at hv2 hl2 ⊢
  clear hne
  have H1 := zh hv1
  have H2 := zh hv2
  clear hv1 hv2
  go_enter Tryz.func86, Tryz.ntmps86
  go_wp2
  go_loopw [5] (fun i wr => ∃ k : Nat, k ≤ xs.length ∧ i = .int .i64 k ∧ xs.take k = ys.take k ∧ Ext w wr) (fun i _ => xs.length - (intOf i).toNat)
  case atStart => exact ⟨0, Nat.zero_le _, rfl, rfl, .refl _⟩
  case round =>
   obtain ⟨k, hk, rfl, he, hq⟩ := hrel
   have HE := zh he
   have HQ := zh hq
   clear he hq
   by_cases hlt : k < xs.length
   ·obtain ⟨b, o, x, a0, c0, rfl, _, hx1, hc0, hr1, hlx⟩ := (H1.out.ext HQ.out).atList k hlt
    obtain ⟨b2, o2, y, b0, d0, rfl, _, hx2, hd0, hr2, hly⟩ := (H2.out.ext HQ.out).atList k (by have := H.out; omega)
    clear H1 H2
    have HX1 := zh (hr1.out.ext (Ext.refl wr).drew)
    have HX2 := zh (hr2.out.ext (Ext.refl wr).drew)
    have HQ2 := zh HQ.out.drew
    go_wp2
    go_still_tail 8, (by kernel_rfl)
    change wpList _ _ _ _ _ wr.drew
    generalize wr.drew = w2 at *
    go_wp2_with fail
    refine (eqOrderS _ _ _ _ _ HX1.out HX2.out).mono ?_
    rintro e w3 ⟨rfl, he3⟩
    have HQ3 := zh (HQ2.out.tr he3)
    clear he3
    cases hx : Eqb x y
    ·have HN := zh (Eqb.f (ne_at hx1.out hx2.out (fun e => by rw [Eqb.t e] at hx; cases hx)))
     go_wp2
     go_ret
     exact ⟨wp_cond_ret HN.out.symm, HQ3.out⟩
    ·have HX := zh (take_eq_succ hx1.out (Eqb.iff.1 hx ▸ hx2.out) HE.out)
     go_wp2
     go_roundw
     case rel => exact ⟨k + 1, by omega, by go_num, HX.out, HQ3.out⟩
     case measure => simp [intOf]; omega
   ·have HN := zh (Eqb.t (take_eq_all xs ys k H.out (by omega) HE.out))
    clear H1 H2
    go_wp2
    go_ret
    exact ⟨wp_cond_ret HN.out.symm, HQ.out⟩
 ·have HN := zh (Eqb.f (fun h => hne (by rw [h]) : xs ≠ ys))
  have hb : decide (xs.length = ys.length) = false := by simpa using hne
  clear hv1 hv2
  go_enter Tryz.func86, Tryz.ntmps86
  go_wp2
  all_goals go_ret
  all_goals exact ⟨wp_cond_ret HN.out.symm, .refl _⟩
theorem eqPart (v1 v2 : Value) (x y : Part) (w : World) (hv1 : Rv w v1 x) (hv2 : Rv w v2 y) :
  Calls Tryz.prog 207 #[v1, v2] w fun e w' => e = .returned (.bool (Eqb x y)) ∧ Ext w w' := by
 obtain ⟨a0, c0, rfl, r1, h0, l0⟩ := hv1.openPart
 obtain ⟨bb0, d0, rfl, s1, k0, m0⟩ := hv2.openPart
 clear hv1 hv2
 have E0 := zh (((Ext.refl w).alloc (.cells #[.slice a0 x.Windows.length c0, .int .i64 x.Cells] 147)).alloc (.cells #[.slice bb0 y.Windows.length d0, .int .i64 y.Cells] 147))
 have X0 := zh (Ext.refl ((w.alloc (.cells #[.slice a0 x.Windows.length c0, .int .i64 x.Cells] 147)).alloc (.cells #[.slice bb0 y.Windows.length d0, .int .i64 y.Cells] 147)))
 go_enter Tryz.func207, Tryz.ntmps207
 go_wp2_with fail
 refine (eqWindowS _ _ _ _ _ (h0.out.ext E0.out) (k0.out.ext E0.out)).mono ?_
 rintro e w1 ⟨rfl, he⟩
 have E1 := zh (E0.out.tr he)
 have X1 := zh (X0.out.tr he)
 obtain ⟨hcb0, hfb0⟩ := bcell X1.out
 clear he
 cases q0 : Eqb x.Windows y.Windows
 ·have HN : Hid (Eqb x y = false) := zh (Eqb.f (fun e => by rw [Eqb.t (congrArg Part.Windows e)] at q0; cases q0))
  go_wp2
  go_ret
  exact ⟨wp_cond_ret HN.out.symm, E1.out⟩
 ·have Q0 := zh (Eqb.iff.1 q0)
  clear q0
  go_wp2
  all_goals clear hcb0 hfb0 X0 X1
  all_goals go_ret
  all_goals refine ⟨?_, E1.out⟩
  all_goals clear E0 E1
  all_goals clear h0 k0
  all_goals first
   | (refine wp_cond_ret (Eqb.f ?_).symm; intro hxy; subst hxy; simp_all; done)
   | (refine wp_cond_ret (Eqb.t ?_).symm; have z0 := Q0.out; cases x; cases y; simp_all; done)
theorem eqPartS (v1 v2 : Value) (xs ys : List Part) (w : World) (hv1 : Rs w v1 xs) (hv2 : Rs w v2 ys) :
  Calls Tryz.prog 151 #[v1, v2] w fun e w' => e = .returned (.bool (Eqb xs ys)) ∧ Ext w w' := by
 obtain ⟨a, c, rfl, hl⟩ := hv1.form
 obtain ⟨a2, c2, rfl, hl2⟩ := hv2.form
 by_cases hne : xs.length = ys.length
 ·have H := zh hne
  rw [← hne] at hv2 hl2 ⊢
  clear hne
  have H1 := zh hv1
  have H2 := zh hv2
  clear hv1 hv2
  go_enter Tryz.func151, Tryz.ntmps151
  go_wp2
  go_loopw [5] (fun i wr => ∃ k : Nat, k ≤ xs.length ∧ i = .int .i64 k ∧ xs.take k = ys.take k ∧ Ext w wr) (fun i _ => xs.length - (intOf i).toNat)
  case atStart => exact ⟨0, Nat.zero_le _, rfl, rfl, .refl _⟩
  case round =>
   obtain ⟨k, hk, rfl, he, hq⟩ := hrel
   have HE := zh he
   have HQ := zh hq
   clear he hq
   by_cases hlt : k < xs.length
   ·obtain ⟨b, o, x, a0, c0, rfl, _, hx1, hc0, hc1, g1, h0, l0, hr1⟩ := (H1.out.ext HQ.out).atPart k hlt
    obtain ⟨b2, o2, y, bb0, d0, rfl, _, hx2, hd0, hd1, f1, k0, m0, hr2⟩ := (H2.out.ext HQ.out).atPart k (by have := H.out; omega)
    clear H1 H2
    have HX1 := zh (hr1.out.ext (Ext.refl wr).drew)
    have HX2 := zh (hr2.out.ext (Ext.refl wr).drew)
    have HQ2 := zh HQ.out.drew
    go_wp2
    go_still_tail 8, (by kernel_rfl)
    change wpList _ _ _ _ _ wr.drew
    generalize wr.drew = w2 at *
    go_wp2_with fail
    refine (eqPart _ _ _ _ _ HX1.out HX2.out).mono ?_
    rintro e w3 ⟨rfl, he3⟩
    have HQ3 := zh (HQ2.out.tr he3)
    clear he3
    cases hx : Eqb x y
    ·have HN := zh (Eqb.f (ne_at hx1.out hx2.out (fun e => by rw [Eqb.t e] at hx; cases hx)))
     go_wp2
     go_ret
     exact ⟨wp_cond_ret HN.out.symm, HQ3.out⟩
    ·have HX := zh (take_eq_succ hx1.out (Eqb.iff.1 hx ▸ hx2.out) HE.out)
     go_wp2
     go_roundw
     case rel => exact ⟨k + 1, by omega, by go_num, HX.out, HQ3.out⟩
     case measure => simp [intOf]; omega
   ·have HN := zh (Eqb.t (take_eq_all xs ys k H.out (by omega) HE.out))
    clear H1 H2
    go_wp2
    go_ret
    exact ⟨wp_cond_ret HN.out.symm, HQ.out⟩
 ·have HN := zh (Eqb.f (fun h => hne (by rw [h]) : xs ≠ ys))
  have hb : decide (xs.length = ys.length) = false := by simpa using hne
  clear hv1 hv2
  go_enter Tryz.func151, Tryz.ntmps151
  go_wp2
  all_goals go_ret
  all_goals exact ⟨wp_cond_ret HN.out.symm, .refl _⟩
theorem eqSetup (v1 v2 : Value) (x y : Setup) (w : World) (hv1 : Rv w v1 x) (hv2 : Rv w v2 y) :
  Calls Tryz.prog 85 #[v1, v2] w fun e w' => e = .returned (.bool (Eqb x y)) ∧ Ext w w' := by
 obtain ⟨a0, c0, a1, c1, a2, c2, rfl, h0, l0, h1, l1, h2, l2⟩ := hv1.openSetup
 obtain ⟨bb0, d0, bb1, d1, bb2, d2, rfl, k0, m0, k1, m1, k2, m2⟩ := hv2.openSetup
 clear hv1 hv2
 have E0 := zh (((Ext.refl w).alloc (.cells #[.slice a0 x.Parts.length c0, .slice a1 x.Channels.length c1, .slice a2 x.Slots.length c2] 41)).alloc (.cells #[.slice bb0 y.Parts.length d0, .slice bb1 y.Channels.length d1, .slice bb2 y.Slots.length d2] 41))
 have X0 := zh (Ext.refl ((w.alloc (.cells #[.slice a0 x.Parts.length c0, .slice a1 x.Channels.length c1, .slice a2 x.Slots.length c2] 41)).alloc (.cells #[.slice bb0 y.Parts.length d0, .slice bb1 y.Channels.length d1, .slice bb2 y.Slots.length d2] 41)))
 go_enter Tryz.func85, Tryz.ntmps85
 go_wp2_with fail
 refine (eqPartS _ _ _ _ _ (h0.out.ext E0.out) (k0.out.ext E0.out)).mono ?_
 rintro e w1 ⟨rfl, he⟩
 have E1 := zh (E0.out.tr he)
 have X1 := zh (X0.out.tr he)
 obtain ⟨hcb0, hfb0⟩ := bcell X1.out
 clear he
 cases q0 : Eqb x.Parts y.Parts
 ·have HN : Hid (Eqb x y = false) := zh (Eqb.f (fun e => by rw [Eqb.t (congrArg Setup.Parts e)] at q0; cases q0))
  go_wp2
  go_ret
  exact ⟨wp_cond_ret HN.out.symm, E1.out⟩
 ·have Q0 := zh (Eqb.iff.1 q0)
  clear q0
  go_wp2_with fail
  refine (eqChannelS _ _ _ _ _ (h1.out.ext E1.out) (k1.out.ext E1.out)).mono ?_
  rintro e w2 ⟨rfl, he⟩
  have E2 := zh (E1.out.tr he)
  have X2 := zh (X1.out.tr he)
  clear hcb0 hfb0
  obtain ⟨hcb1, hfb1⟩ := bcell X2.out
  clear he
  cases q1 : Eqb x.Channels y.Channels
  ·have HN : Hid (Eqb x y = false) := zh (Eqb.f (fun e => by rw [Eqb.t (congrArg Setup.Channels e)] at q1; cases q1))
   go_wp2
   go_ret
   exact ⟨wp_cond_ret HN.out.symm, E2.out⟩
  ·have Q1 := zh (Eqb.iff.1 q1)
   clear q1
   go_wp2_with fail
   refine (eqSlotS _ _ _ _ _ (h2.out.ext E2.out) (k2.out.ext E2.out)).mono ?_
   rintro e w3 ⟨rfl, he⟩
   have E3 := zh (E2.out.tr he)
   have X3 := zh (X2.out.tr he)
   clear hcb1 hfb1
   obtain ⟨hcb2, hfb2⟩ := bcell X3.out
   clear he
   cases q2 : Eqb x.Slots y.Slots
   ·have HN : Hid (Eqb x y = false) := zh (Eqb.f (fun e => by rw [Eqb.t (congrArg Setup.Slots e)] at q2; cases q2))
    go_wp2
    go_ret
    exact ⟨wp_cond_ret HN.out.symm, E3.out⟩
   ·have Q2 := zh (Eqb.iff.1 q2)
    clear q2
    go_wp2
    all_goals clear hcb2 hfb2 X0 X1 X2 X3
    all_goals go_ret
    all_goals refine ⟨?_, E3.out⟩
    all_goals clear E0 E1 E2 E3
    all_goals clear h0 k0 h1 k1 h2 k2
    all_goals first
     | (refine wp_cond_ret (Eqb.f ?_).symm; intro hxy; subst hxy; simp_all; done)
     | (refine wp_cond_ret (Eqb.t ?_).symm; have z0 := Q0.out; have z1 := Q1.out; have z2 := Q2.out; cases x; cases y; simp_all; done)
theorem eqCore (v1 v2 : Value) (x y : Core) (w : World) (hv1 : Rv w v1 x) (hv2 : Rv w v2 y) :
  Calls Tryz.prog 155 #[v1, v2] w fun e w' => e = .returned (.bool (Eqb x y)) ∧ Ext w w' := by
 obtain ⟨a0, c0, rfl, r1, h0, l0⟩ := hv1.openCore
 obtain ⟨bb0, d0, rfl, s1, k0, m0⟩ := hv2.openCore
 clear hv1 hv2
 have E0 := zh (((Ext.refl w).alloc (.cells #[.slice a0 x.Cells.length c0, .int .i64 x.At, .bool x.Stopped] 91)).alloc (.cells #[.slice bb0 y.Cells.length d0, .int .i64 y.At, .bool y.Stopped] 91))
 have X0 := zh (Ext.refl ((w.alloc (.cells #[.slice a0 x.Cells.length c0, .int .i64 x.At, .bool x.Stopped] 91)).alloc (.cells #[.slice bb0 y.Cells.length d0, .int .i64 y.At, .bool y.Stopped] 91)))
 go_enter Tryz.func155, Tryz.ntmps155
 go_wp2_with fail
 refine (eqIntS _ _ _ _ _ (h0.out.ext E0.out) (k0.out.ext E0.out)).mono ?_
 rintro e w1 ⟨rfl, he⟩
 have E1 := zh (E0.out.tr he)
 have X1 := zh (X0.out.tr he)
 obtain ⟨hcb0, hfb0⟩ := bcell X1.out
 clear he
 cases q0 : Eqb x.Cells y.Cells
 ·have HN : Hid (Eqb x y = false) := zh (Eqb.f (fun e => by rw [Eqb.t (congrArg Core.Cells e)] at q0; cases q0))
  go_wp2
  go_ret
  exact ⟨wp_cond_ret HN.out.symm, E1.out⟩
 ·have Q0 := zh (Eqb.iff.1 q0)
  clear q0
  go_wp2
  all_goals clear hcb0 hfb0 X0 X1
  all_goals go_ret
  all_goals refine ⟨?_, E1.out⟩
  all_goals clear E0 E1
  all_goals clear h0 k0
  all_goals first
   | (refine wp_cond_ret (Eqb.f ?_).symm; intro hxy; subst hxy; simp_all; done)
   | (refine wp_cond_ret (Eqb.t ?_).symm; have z0 := Q0.out; cases x; cases y; simp_all; done)
theorem eqCoreS (v1 v2 : Value) (xs ys : List Core) (w : World) (hv1 : Rs w v1 xs) (hv2 : Rs w v2 ys) :
  Calls Tryz.prog 87 #[v1, v2] w fun e w' => e = .returned (.bool (Eqb xs ys)) ∧ Ext w w' := by
 obtain ⟨a, c, rfl, hl⟩ := hv1.form
 obtain ⟨a2, c2, rfl, hl2⟩ := hv2.form
 by_cases hne : xs.length = ys.length
 ·have H := zh hne
  rw [← hne] at hv2 hl2 ⊢
  clear hne
  have H1 := zh hv1
  have H2 := zh hv2
  clear hv1 hv2
  go_enter Tryz.func87, Tryz.ntmps87
  go_wp2
  go_loopw [5] (fun i wr => ∃ k : Nat, k ≤ xs.length ∧ i = .int .i64 k ∧ xs.take k = ys.take k ∧ Ext w wr) (fun i _ => xs.length - (intOf i).toNat)
  case atStart => exact ⟨0, Nat.zero_le _, rfl, rfl, .refl _⟩
  case round =>
   obtain ⟨k, hk, rfl, he, hq⟩ := hrel
   have HE := zh he
   have HQ := zh hq
   clear he hq
   by_cases hlt : k < xs.length
   ·obtain ⟨b, o, x, a0, c0, rfl, _, hx1, hc0, hc1, hc2, g1, h0, l0, hr1⟩ := (H1.out.ext HQ.out).atCore k hlt
    obtain ⟨b2, o2, y, bb0, d0, rfl, _, hx2, hd0, hd1, hd2, f1, k0, m0, hr2⟩ := (H2.out.ext HQ.out).atCore k (by have := H.out; omega)
    clear H1 H2
    have HX1 := zh (hr1.out.ext (Ext.refl wr).drew)
    have HX2 := zh (hr2.out.ext (Ext.refl wr).drew)
    have HQ2 := zh HQ.out.drew
    go_wp2
    go_still_tail 8, (by kernel_rfl)
    change wpList _ _ _ _ _ wr.drew
    generalize wr.drew = w2 at *
    go_wp2_with fail
    refine (eqCore _ _ _ _ _ HX1.out HX2.out).mono ?_
    rintro e w3 ⟨rfl, he3⟩
    have HQ3 := zh (HQ2.out.tr he3)
    clear he3
    cases hx : Eqb x y
    ·have HN := zh (Eqb.f (ne_at hx1.out hx2.out (fun e => by rw [Eqb.t e] at hx; cases hx)))
     go_wp2
     go_ret
     exact ⟨wp_cond_ret HN.out.symm, HQ3.out⟩
    ·have HX := zh (take_eq_succ hx1.out (Eqb.iff.1 hx ▸ hx2.out) HE.out)
     go_wp2
     go_roundw
     case rel => exact ⟨k + 1, by omega, by go_num, HX.out, HQ3.out⟩
     case measure => simp [intOf]; omega
   ·have HN := zh (Eqb.t (take_eq_all xs ys k H.out (by omega) HE.out))
    clear H1 H2
    go_wp2
    go_ret
    exact ⟨wp_cond_ret HN.out.symm, HQ.out⟩
 ·have HN := zh (Eqb.f (fun h => hne (by rw [h]) : xs ≠ ys))
  have hb : decide (xs.length = ys.length) = false := by simpa using hne
  clear hv1 hv2
  go_enter Tryz.func87, Tryz.ntmps87
  go_wp2
  all_goals go_ret
  all_goals exact ⟨wp_cond_ret HN.out.symm, .refl _⟩
theorem eqHold (v1 v2 : Value) (x y : Hold) (w : World) (hv1 : Rv w v1 x) (hv2 : Rv w v2 y) :
  Calls Tryz.prog 156 #[v1, v2] w fun e w' => e = .returned (.bool (Eqb x y)) ∧ Ext w w' := by
 obtain ⟨a0, c0, rfl, h0, l0⟩ := hv1.openHold
 obtain ⟨bb0, d0, rfl, k0, m0⟩ := hv2.openHold
 clear hv1 hv2
 have E0 := zh (((Ext.refl w).alloc (.cells #[.slice a0 x.Lst.length c0] 121)).alloc (.cells #[.slice bb0 y.Lst.length d0] 121))
 have X0 := zh (Ext.refl ((w.alloc (.cells #[.slice a0 x.Lst.length c0] 121)).alloc (.cells #[.slice bb0 y.Lst.length d0] 121)))
 go_enter Tryz.func156, Tryz.ntmps156
 go_wp2_with fail
 refine (eqIntS _ _ _ _ _ (h0.out.ext E0.out) (k0.out.ext E0.out)).mono ?_
 rintro e w1 ⟨rfl, he⟩
 have E1 := zh (E0.out.tr he)
 have X1 := zh (X0.out.tr he)
 obtain ⟨hcb0, hfb0⟩ := bcell X1.out
 clear he
 cases q0 : Eqb x.Lst y.Lst
 ·have HN : Hid (Eqb x y = false) := zh (Eqb.f (fun e => by rw [Eqb.t (congrArg Hold.Lst e)] at q0; cases q0))
  go_wp2
  go_ret
  exact ⟨wp_cond_ret HN.out.symm, E1.out⟩
 ·have Q0 := zh (Eqb.iff.1 q0)
  clear q0
  go_wp2
  all_goals clear hcb0 hfb0 X0 X1
  all_goals go_ret
  all_goals refine ⟨?_, E1.out⟩
  all_goals clear E0 E1
  all_goals clear h0 k0
  all_goals first
   | (refine wp_cond_ret (Eqb.f ?_).symm; intro hxy; subst hxy; simp_all; done)
   | (refine wp_cond_ret (Eqb.t ?_).symm; have z0 := Q0.out; cases x; cases y; simp_all; done)
theorem eqHoldS (v1 v2 : Value) (xs ys : List Hold) (w : World) (hv1 : Rs w v1 xs) (hv2 : Rs w v2 ys) :
  Calls Tryz.prog 88 #[v1, v2] w fun e w' => e = .returned (.bool (Eqb xs ys)) ∧ Ext w w' := by
 obtain ⟨a, c, rfl, hl⟩ := hv1.form
 obtain ⟨a2, c2, rfl, hl2⟩ := hv2.form
 by_cases hne : xs.length = ys.length
 ·have H := zh hne
  rw [← hne] at hv2 hl2 ⊢
  clear hne
  have H1 := zh hv1
  have H2 := zh hv2
  clear hv1 hv2
  go_enter Tryz.func88, Tryz.ntmps88
  go_wp2
  go_loopw [5] (fun i wr => ∃ k : Nat, k ≤ xs.length ∧ i = .int .i64 k ∧ xs.take k = ys.take k ∧ Ext w wr) (fun i _ => xs.length - (intOf i).toNat)
  case atStart => exact ⟨0, Nat.zero_le _, rfl, rfl, .refl _⟩
  case round =>
   obtain ⟨k, hk, rfl, he, hq⟩ := hrel
   have HE := zh he
   have HQ := zh hq
   clear he hq
   by_cases hlt : k < xs.length
   ·obtain ⟨b, o, x, a0, c0, rfl, _, hx1, hc0, h0, l0, hr1⟩ := (H1.out.ext HQ.out).atHold k hlt
    obtain ⟨b2, o2, y, bb0, d0, rfl, _, hx2, hd0, k0, m0, hr2⟩ := (H2.out.ext HQ.out).atHold k (by have := H.out; omega)
    clear H1 H2
    have HX1 := zh (hr1.out.ext (Ext.refl wr).drew)
    have HX2 := zh (hr2.out.ext (Ext.refl wr).drew)
    have HQ2 := zh HQ.out.drew
    go_wp2
    go_still_tail 8, (by kernel_rfl)
    change wpList _ _ _ _ _ wr.drew
    generalize wr.drew = w2 at *
    go_wp2_with fail
    refine (eqHold _ _ _ _ _ HX1.out HX2.out).mono ?_
    rintro e w3 ⟨rfl, he3⟩
    have HQ3 := zh (HQ2.out.tr he3)
    clear he3
    cases hx : Eqb x y
    ·have HN := zh (Eqb.f (ne_at hx1.out hx2.out (fun e => by rw [Eqb.t e] at hx; cases hx)))
     go_wp2
     go_ret
     exact ⟨wp_cond_ret HN.out.symm, HQ3.out⟩
    ·have HX := zh (take_eq_succ hx1.out (Eqb.iff.1 hx ▸ hx2.out) HE.out)
     go_wp2
     go_roundw
     case rel => exact ⟨k + 1, by omega, by go_num, HX.out, HQ3.out⟩
     case measure => simp [intOf]; omega
   ·have HN := zh (Eqb.t (take_eq_all xs ys k H.out (by omega) HE.out))
    clear H1 H2
    go_wp2
    go_ret
    exact ⟨wp_cond_ret HN.out.symm, HQ.out⟩
 ·have HN := zh (Eqb.f (fun h => hne (by rw [h]) : xs ≠ ys))
  have hb : decide (xs.length = ys.length) = false := by simpa using hne
  clear hv1 hv2
  go_enter Tryz.func88, Tryz.ntmps88
  go_wp2
  all_goals go_ret
  all_goals exact ⟨wp_cond_ret HN.out.symm, .refl _⟩
theorem eqMachine (v1 v2 : Value) (x y : Machine) (w : World) (hv1 : Rv w v1 x) (hv2 : Rv w v2 y) :
  Calls Tryz.prog 40 #[v1, v2] w fun e w' => e = .returned (.bool (Eqb x y)) ∧ Ext w w' := by
 obtain ⟨a0, c0, a1, c1, a2, c2, a3, c3, a4, c4, a5, c5, rfl, r6, h0, l0, h1, l1, h2, l2, h3, l3, h4, l4, h5, l5⟩ := hv1.openMachine
 obtain ⟨bb0, d0, bb1, d1, bb2, d2, bb3, d3, bb4, d4, bb5, d5, rfl, s6, k0, m0, k1, m1, k2, m2, k3, m3, k4, m4, k5, m5⟩ := hv2.openMachine
 clear hv1 hv2
 have E0 := zh (((Ext.refl w).alloc (.cells #[.slice a0 x.Plan.Parts.length c0, .slice a1 x.Plan.Channels.length c1, .slice a2 x.Plan.Slots.length c2, .slice a3 x.Programs.length c3, .slice a4 x.Cores.length c4, .slice a5 x.Holds.length c5, .int .i64 x.Tick] 46)).alloc (.cells #[.slice bb0 y.Plan.Parts.length d0, .slice bb1 y.Plan.Channels.length d1, .slice bb2 y.Plan.Slots.length d2, .slice bb3 y.Programs.length d3, .slice bb4 y.Cores.length d4, .slice bb5 y.Holds.length d5, .int .i64 y.Tick] 46))
 have X0 := zh (Ext.refl ((w.alloc (.cells #[.slice a0 x.Plan.Parts.length c0, .slice a1 x.Plan.Channels.length c1, .slice a2 x.Plan.Slots.length c2, .slice a3 x.Programs.length c3, .slice a4 x.Cores.length c4, .slice a5 x.Holds.length c5, .int .i64 x.Tick] 46)).alloc (.cells #[.slice bb0 y.Plan.Parts.length d0, .slice bb1 y.Plan.Channels.length d1, .slice bb2 y.Plan.Slots.length d2, .slice bb3 y.Programs.length d3, .slice bb4 y.Cores.length d4, .slice bb5 y.Holds.length d5, .int .i64 y.Tick] 46)))
 go_enter Tryz.func40, Tryz.ntmps40
 go_wp2_with fail
 refine (eqSetup _ _ _ _ _ (Rv.mkSetup (h0.out.ext E0.out) (h1.out.ext E0.out) (h2.out.ext E0.out)) (Rv.mkSetup (k0.out.ext E0.out) (k1.out.ext E0.out) (k2.out.ext E0.out))).mono ?_
 rintro e w1 ⟨rfl, he⟩
 have E1 := zh (E0.out.tr he)
 have X1 := zh (X0.out.tr he)
 obtain ⟨hcb0, hfb0⟩ := bcell X1.out
 clear he
 cases q0 : Eqb x.Plan y.Plan
 ·have HN : Hid (Eqb x y = false) := zh (Eqb.f (fun e => by rw [Eqb.t (congrArg Machine.Plan e)] at q0; cases q0))
  go_wp2
  go_ret
  exact ⟨wp_cond_ret HN.out.symm, E1.out⟩
 ·have Q0 := zh (Eqb.iff.1 q0)
  clear q0
  go_wp2_with fail
  refine (eqOrderSS _ _ _ _ _ (h3.out.ext E1.out) (k3.out.ext E1.out)).mono ?_
  rintro e w2 ⟨rfl, he⟩
  have E2 := zh (E1.out.tr he)
  have X2 := zh (X1.out.tr he)
  clear hcb0 hfb0
  obtain ⟨hcb1, hfb1⟩ := bcell X2.out
  clear he
  cases q1 : Eqb x.Programs y.Programs
  ·have HN : Hid (Eqb x y = false) := zh (Eqb.f (fun e => by rw [Eqb.t (congrArg Machine.Programs e)] at q1; cases q1))
   go_wp2
   go_ret
   exact ⟨wp_cond_ret HN.out.symm, E2.out⟩
  ·have Q1 := zh (Eqb.iff.1 q1)
   clear q1
   go_wp2_with fail
   refine (eqCoreS _ _ _ _ _ (h4.out.ext E2.out) (k4.out.ext E2.out)).mono ?_
   rintro e w3 ⟨rfl, he⟩
   have E3 := zh (E2.out.tr he)
   have X3 := zh (X2.out.tr he)
   clear hcb1 hfb1
   obtain ⟨hcb2, hfb2⟩ := bcell X3.out
   clear he
   cases q2 : Eqb x.Cores y.Cores
   ·have HN : Hid (Eqb x y = false) := zh (Eqb.f (fun e => by rw [Eqb.t (congrArg Machine.Cores e)] at q2; cases q2))
    go_wp2
    go_ret
    exact ⟨wp_cond_ret HN.out.symm, E3.out⟩
   ·have Q2 := zh (Eqb.iff.1 q2)
    clear q2
    go_wp2_with fail
    refine (eqHoldS _ _ _ _ _ (h5.out.ext E3.out) (k5.out.ext E3.out)).mono ?_
    rintro e w4 ⟨rfl, he⟩
    have E4 := zh (E3.out.tr he)
    have X4 := zh (X3.out.tr he)
    clear hcb2 hfb2
    obtain ⟨hcb3, hfb3⟩ := bcell X4.out
    clear he
    cases q3 : Eqb x.Holds y.Holds
    ·have HN : Hid (Eqb x y = false) := zh (Eqb.f (fun e => by rw [Eqb.t (congrArg Machine.Holds e)] at q3; cases q3))
     go_wp2
     go_ret
     exact ⟨wp_cond_ret HN.out.symm, E4.out⟩
    ·have Q3 := zh (Eqb.iff.1 q3)
     clear q3
     go_wp2
     all_goals clear hcb3 hfb3 X0 X1 X2 X3 X4
     all_goals go_ret
     all_goals refine ⟨?_, E4.out⟩
     all_goals clear E0 E1 E2 E3 E4
     all_goals clear h0 k0 h1 k1 h2 k2 h3 k3 h4 k4 h5 k5
     all_goals first
      | (refine wp_cond_ret (Eqb.f ?_).symm; intro hxy; subst hxy; simp_all; done)
      | (refine wp_cond_ret (Eqb.t ?_).symm; have z0 := Q0.out; have z1 := Q1.out; have z2 := Q2.out; have z3 := Q3.out; cases x; cases y; simp_all; done)
theorem eqWatch (v1 v2 : Value) (x y : Watch) (w : World) (hv1 : Rv w v1 x) (hv2 : Rv w v2 y) :
  Calls Tryz.prog 13 #[v1, v2] w fun e w' => e = .returned (.bool (Eqb x y)) ∧ Ext w w' := by
 obtain ⟨a0, c0, a1, c1, a2, c2, a3, c3, a4, c4, a5, c5, a7, c7, rfl, r6, h0, l0, h1, l1, h2, l2, h3, l3, h4, l4, h5, l5, h7, l7⟩ := hv1.openWatch
 obtain ⟨bb0, d0, bb1, d1, bb2, d2, bb3, d3, bb4, d4, bb5, d5, bb7, d7, rfl, s6, k0, m0, k1, m1, k2, m2, k3, m3, k4, m4, k5, m5, k7, m7⟩ := hv2.openWatch
 clear hv1 hv2
 have E0 := zh (((Ext.refl w).alloc (.cells #[.slice a0 x.Box.Plan.Parts.length c0, .slice a1 x.Box.Plan.Channels.length c1, .slice a2 x.Box.Plan.Slots.length c2, .slice a3 x.Box.Programs.length c3, .slice a4 x.Box.Cores.length c4, .slice a5 x.Box.Holds.length c5, .int .i64 x.Box.Tick, .slice a7 x.States.length c7] 49)).alloc (.cells #[.slice bb0 y.Box.Plan.Parts.length d0, .slice bb1 y.Box.Plan.Channels.length d1, .slice bb2 y.Box.Plan.Slots.length d2, .slice bb3 y.Box.Programs.length d3, .slice bb4 y.Box.Cores.length d4, .slice bb5 y.Box.Holds.length d5, .int .i64 y.Box.Tick, .slice bb7 y.States.length d7] 49))
 have X0 := zh (Ext.refl ((w.alloc (.cells #[.slice a0 x.Box.Plan.Parts.length c0, .slice a1 x.Box.Plan.Channels.length c1, .slice a2 x.Box.Plan.Slots.length c2, .slice a3 x.Box.Programs.length c3, .slice a4 x.Box.Cores.length c4, .slice a5 x.Box.Holds.length c5, .int .i64 x.Box.Tick, .slice a7 x.States.length c7] 49)).alloc (.cells #[.slice bb0 y.Box.Plan.Parts.length d0, .slice bb1 y.Box.Plan.Channels.length d1, .slice bb2 y.Box.Plan.Slots.length d2, .slice bb3 y.Box.Programs.length d3, .slice bb4 y.Box.Cores.length d4, .slice bb5 y.Box.Holds.length d5, .int .i64 y.Box.Tick, .slice bb7 y.States.length d7] 49)))
 go_enter Tryz.func13, Tryz.ntmps13
 go_wp2_with fail
 refine (eqMachine _ _ _ _ _ (Rv.mkMachine (h0.out.ext E0.out) (h1.out.ext E0.out) (h2.out.ext E0.out) (h3.out.ext E0.out) (h4.out.ext E0.out) (h5.out.ext E0.out) r6) (Rv.mkMachine (k0.out.ext E0.out) (k1.out.ext E0.out) (k2.out.ext E0.out) (k3.out.ext E0.out) (k4.out.ext E0.out) (k5.out.ext E0.out) s6)).mono ?_
 rintro e w1 ⟨rfl, he⟩
 have E1 := zh (E0.out.tr he)
 have X1 := zh (X0.out.tr he)
 obtain ⟨hcb0, hfb0⟩ := bcell X1.out
 clear he
 cases q0 : Eqb x.Box y.Box
 ·have HN : Hid (Eqb x y = false) := zh (Eqb.f (fun e => by rw [Eqb.t (congrArg Watch.Box e)] at q0; cases q0))
  go_wp2
  go_ret
  exact ⟨wp_cond_ret HN.out.symm, E1.out⟩
 ·have Q0 := zh (Eqb.iff.1 q0)
  clear q0
  go_wp2_with fail
  refine (eqHealthS _ _ _ _ _ (h7.out.ext E1.out) (k7.out.ext E1.out)).mono ?_
  rintro e w2 ⟨rfl, he⟩
  have E2 := zh (E1.out.tr he)
  have X2 := zh (X1.out.tr he)
  clear hcb0 hfb0
  obtain ⟨hcb1, hfb1⟩ := bcell X2.out
  clear he
  cases q1 : Eqb x.States y.States
  ·have HN : Hid (Eqb x y = false) := zh (Eqb.f (fun e => by rw [Eqb.t (congrArg Watch.States e)] at q1; cases q1))
   go_wp2
   go_ret
   exact ⟨wp_cond_ret HN.out.symm, E2.out⟩
  ·have Q1 := zh (Eqb.iff.1 q1)
   clear q1
   go_wp2
   all_goals clear hcb1 hfb1 X0 X1 X2
   all_goals go_ret
   all_goals refine ⟨?_, E2.out⟩
   all_goals clear E0 E1 E2
   all_goals clear h0 k0 h1 k1 h2 k2 h3 k3 h4 k4 h5 k5 h7 k7
   all_goals first
    | (refine wp_cond_ret (Eqb.f ?_).symm; intro hxy; subst hxy; simp_all; done)
    | (refine wp_cond_ret (Eqb.t ?_).symm; have z0 := Q0.out; have z1 := Q1.out; cases x; cases y; simp_all; done)
end Sk
