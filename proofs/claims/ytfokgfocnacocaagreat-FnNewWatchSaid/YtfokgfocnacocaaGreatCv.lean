/- Contracts of functions of the given program, each under the condition that it states. -/
import Derived.Test.YtfokgfocnacocaaGreatChecked
import Derived.Deep.CutBlock
import Derived.Deep.CutRange
import Derived.Test.YtfokgfocnacocaaGreatFaultS
namespace Sk
open Go Go.Proofs Go.RowKit
set_option maxHeartbeats 1000000
set_option maxRecDepth 100000
set_option linter.unusedVariables false
set_option linter.unusedSimpArgs false
def M.vals (xs : List Int) : Bool := xs.all (fun n => M.inn n 0 255)
def M.fits (x : Core) (n : Nat) (c : Int) : Bool := (x.Cells.length : Int) == c && (M.inn x.At 0 (n - 1) && M.vals x.Cells)
noncomputable def M.hv (x : Hold) (k s : Int) : Bool := M.sized k s && (decide ((x.Lst.length : Int) ≤ s) && M.vals x.Lst)
theorem impl_Core_fits_1 (n : Int) (w : World) : Calls Tryz.prog 79 #[.int .i64 n] w fun e w' => e = .returned (.bool (!M.inn n 0 255)) ∧ w = w' := by
 go_enter Tryz.func79, Tryz.ntmps79
 go_wp2_with (go_at_call 80; refine (impl_isValue _ _).mono ?_; rintro e w' ⟨rfl, rfl⟩)
 go_ret
 exact ⟨rfl, rfl⟩
theorem impl_HoldValid_1 (n : Int) (w : World) : Calls Tryz.prog 82 #[.int .i64 n] w fun e w' => e = .returned (.bool (!M.inn n 0 255)) ∧ w = w' := by
 go_enter Tryz.func82, Tryz.ntmps82
 go_wp2_with (go_at_call 80; refine (impl_isValue _ _).mono ?_; rintro e w' ⟨rfl, rfl⟩)
 go_ret
 exact ⟨rfl, rfl⟩
theorem impl_Core_fits (v vl : Value) (x : Core) (xs : List Order) (c : Int) (w : World) (h : Rv w v x) (hl : Rs w vl xs) :
  Calls Tryz.prog 37 #[v, vl, .int .i64 c] w fun e w' => e = .returned (.bool (M.fits x xs.length c)) ∧ Ext w w' := by
 obtain ⟨a0, c0, rfl, hr, hs, hl0⟩ := h.openCore
 obtain ⟨al, cl, rfl, hll⟩ := hl.form
 clear h hl
 have e0 := zh ((Ext.refl w).alloc (.cells #[.slice a0 x.Cells.length c0, .int .i64 x.At, .bool x.Stopped] 41))
 have hn0 : 0 ≤ (xs.length : Int) := by omega
 by_cases h1 : (x.Cells.length : Int) = c
 ·have h1' : ((x.Cells.length : Int) == c) = true := by simpa using h1
  cases h2 : M.inn x.At 0 (xs.length - 1)
  ·have hm := zh (((and_t h1').trans (and_f h2)).symm : _ = M.fits x xs.length c)
   subst h1
   go_enter Tryz.func37, Tryz.ntmps37
   go_wp2_with (go_at_call 34; refine (impl_in _ _ _ _).mono ?_; rintro e w' ⟨rfl, rfl⟩; rw [h2])
   go_ret
   exact ⟨wp_cond_ret hm.out, e0.out⟩
  ·have hm := zh ((not_any_not (fun n => M.inn n 0 255) x.Cells).trans ((and_t h1').trans (and_t h2)).symm : _ = M.fits x xs.length c)
   have HX := zh (has_int 79 #[] (fun n => !M.inn n 0 255) _ x.Cells _ (hs.out.ext e0.out) (enter_of Tryz.func79 (by kernel_rfl) (by kernel_rfl))
    (fun w1 n _ _ _ => (impl_Core_fits_1 n w1).mono (by rintro e w' ⟨rfl, rfl⟩; exact ⟨rfl, Ext.refl _⟩)))
   subst h1
   go_enter Tryz.func37, Tryz.ntmps37
   go_wp2_with (first | (go_at_call 34; refine (impl_in _ _ _ _).mono ?_; rintro e w' ⟨rfl, rfl⟩; rw [h2]) | (go_at_call 78; refine HX.out.mono ?_; rintro e w' ⟨rfl, he⟩))
   go_ret
   exact ⟨wp_cond_ret hm.out, e0.out.tr he⟩
 ·have h1' : ((x.Cells.length : Int) == c) = false := by simpa using h1
  have hm := zh ((and_f h1').symm : _ = M.fits x xs.length c)
  clear h1
  go_enter Tryz.func37, Tryz.ntmps37
  go_wp2
  go_ret
  exact ⟨wp_cond_ret hm.out, e0.out⟩
theorem spec_CoreValid (v vl : Value) (x : Core) (xs : List Order) (c : Int) (w : World) (h : Rv w v x) (hl : Rs w vl xs) :
  Calls Tryz.prog 41 #[v, vl, .int .i64 c] w fun e w' => e = .returned (.bool (M.prv xs c && M.fits x xs.length c)) ∧ Ext w w' := by
 have HL := zh hl
 obtain ⟨a0, c0, rfl, hr, hs, hl0⟩ := h.openCore
 obtain ⟨al, cl, rfl, hll⟩ := hl.form
 clear h hl
 have hn0 : 0 ≤ (xs.length : Int) := by omega
 go_enter Tryz.func41, Tryz.ntmps41
 go_upto_region 1 with (fail)
 refine abs_world (fun W => Ext w W ∧ Bk W w.heap.size [.slice a0 x.Cells.length c0, .int .i64 x.At, .bool x.Stopped] 41) ⟨(Ext.refl _).alloc _, Bk.new _ _ _⟩ ?_
 rintro W ⟨e1, kA⟩
 have HE0 := zh e1
 obtain ⟨d0, d1⟩ := Bk.k2 kA
 have hA := kA.lt
 replace HL := zh (HL.out.ext e1)
 replace hs := zh (hs.out.ext e1)
 clear e1 kA
 go_wp2
 go_loopw [7] (fun i wr => ∃ k : Nat, k ≤ x.Cells.length ∧ i = .int .i64 k ∧ (x.Cells.take k).all (fun n => M.inn n 0 255) = true ∧ wr = W) (fun i _ => x.Cells.length - (intOf i).toNat)
 case atStart => exact ⟨0, Nat.zero_le _, rfl, rfl, rfl⟩
 case round =>
  obtain ⟨k, hk, rfl, he, rfl⟩ := hrel
  have HE := zh he
  clear he
  by_cases hlt : k < x.Cells.length
  ·obtain ⟨b, o, n, rfl, hb, hx, hc, hrn⟩ := hs.out.atInt k hlt
   have HN := zh (all_take_succ (fun n => M.inn n 0 255) hx.out)
   cases h2 : M.inn n 0 255
   ·have HF : Hid ((M.prv xs c && M.fits x xs.length c) = false) := zh (by unfold M.fits M.vals; rw [all_false_at (fun n => M.inn n 0 255) hx.out h2]; simp)
    go_wp2_with (go_at_call 43; refine (spec_In _ _ _ _).mono ?_; rintro e w' ⟨rfl, rfl⟩; rw [h2])
    go_ret
    exact ⟨wp_cond_ret HF.out.symm, HE0.out⟩
   ·have H2 := zh h2
    clear h2
    go_wp2_with (go_at_call 43; refine (spec_In _ _ _ _).mono ?_; rintro e w' ⟨rfl, rfl⟩; rw [H2.out])
    go_roundw
    case rel => exact ⟨k + 1, by omega, by go_num, by rw [HN.out, HE.out, H2.out]; rfl, by trivial⟩
    case measure => simp [intOf]; omega
  ·have HA : Hid (M.vals x.Cells = true) := zh (by unfold M.vals; rw [← all_take_all (fun n => M.inn n 0 255) x.Cells k (by omega)]; exact HE.out)
   have HF : Hid (M.fits x xs.length c = ((x.Cells.length : Int) == c && M.inn x.At 0 (xs.length - 1))) := zh (by unfold M.fits; rw [HA.out, Bool.and_true])
   cases h1 : M.prv xs c
   ·have HP := zh h1
    clear h1
    go_wp2_with (go_at_call 85; refine (spec_ProgramValid _ xs c _ HL.out).mono ?_; rintro e w1 ⟨rfl, he⟩; rw [HP.out]; have HE1 := zh he; clear he)
    go_ret
    exact ⟨by rw [HP.out]; rfl, HE0.out.tr HE1.out⟩
   ·have HP := zh h1
    clear h1
    have hA2 := hA
    by_cases h3 : (x.Cells.length : Int) = c
    ·have h3' := zh (by simpa using h3 : ((x.Cells.length : Int) == c) = true)
     subst h3
     go_wp2_with (first
      | (go_at_call 85; refine (spec_ProgramValid _ xs _ _ HL.out).mono ?_; rintro e w1 ⟨rfl, he⟩; rw [HP.out]; have f0 := (cell_ext he hA2).trans d0; have f1 := (cell_ext he hA2).trans d1; have HE1 := zh he; clear he)
      | (go_at_call 43; refine (spec_In _ _ _ _).mono ?_; rintro e w' ⟨rfl, rfl⟩))
     go_ret
     exact ⟨by rw [HP.out, HF.out, h3'.out]; simp, HE0.out.tr HE1.out⟩
    ·have h3' : ((x.Cells.length : Int) == c) = false := by simpa using h3
     have HF2 := zh (HF.out.trans (and_f h3'))
     clear h3
     go_wp2_with (first
      | (go_at_call 85; refine (spec_ProgramValid _ xs _ _ HL.out).mono ?_; rintro e w1 ⟨rfl, he⟩; rw [HP.out]; have f0 := (cell_ext he hA2).trans d0; have f1 := (cell_ext he hA2).trans d1; have HE1 := zh he; clear he))
     go_ret
     exact ⟨by rw [HP.out, HF2.out]; first | done | rfl, HE0.out.tr HE1.out⟩
theorem impl_HoldValid (v : Value) (x : Hold) (k s : Int) (w : World) (h : Rv w v x) :
  Calls Tryz.prog 38 #[v, .int .i64 k, .int .i64 s] w fun e w' => e = .returned (.bool (M.hv x k s)) ∧ Ext w w' := by
 obtain ⟨a0, c0, rfl, hs, hl0⟩ := h.openHold
 clear h
 have e0 := zh ((Ext.refl w).alloc (.cells #[.slice a0 x.Lst.length c0] 46))
 cases h1 : M.sized k s
 ·have hm := zh ((and_f h1).symm : _ = M.hv x k s)
  go_enter Tryz.func38, Tryz.ntmps38
  go_wp2_with (go_at_call 81; refine (impl_sized _ _ _).mono ?_; rintro e w' ⟨rfl, rfl⟩; rw [h1])
  go_ret
  exact ⟨wp_cond_ret hm.out, e0.out⟩
 ·by_cases h2 : (x.Lst.length : Int) ≤ s
  ·have hm := zh ((not_any_not (fun n => M.inn n 0 255) x.Lst).trans ((and_t h1).trans (and_t (decide_eq_true h2))).symm : _ = M.hv x k s)
   have HX := zh (has_int 82 #[] (fun n => !M.inn n 0 255) _ x.Lst _ (hs.out.ext e0.out) (enter_of Tryz.func82 (by kernel_rfl) (by kernel_rfl))
    (fun w1 n _ _ _ => (impl_HoldValid_1 n w1).mono (by rintro e w' ⟨rfl, rfl⟩; exact ⟨rfl, Ext.refl _⟩)))
   have h2' : decide ((x.Lst.length : Int) ≤ s) = true := decide_eq_true h2
   go_enter Tryz.func38, Tryz.ntmps38
   go_wp2_with (first | (go_at_call 81; refine (impl_sized _ _ _).mono ?_; rintro e w' ⟨rfl, rfl⟩; rw [h1]) | (go_at_call 78; refine HX.out.mono ?_; rintro e w' ⟨rfl, he⟩))
   go_ret
   exact ⟨wp_cond_ret hm.out, e0.out.tr he⟩
  ·have hm := zh (((and_t h1).trans (and_f (decide_eq_false h2))).symm : _ = M.hv x k s)
   have h2' : decide ((x.Lst.length : Int) ≤ s) = false := decide_eq_false h2
   go_enter Tryz.func38, Tryz.ntmps38
   go_wp2_with (go_at_call 81; refine (impl_sized _ _ _).mono ?_; rintro e w' ⟨rfl, rfl⟩; rw [h1])
   go_ret
   exact ⟨wp_cond_ret hm.out, e0.out⟩
theorem M.sized_s (k s : Int) : M.sized k s = (M.inn k 1 3 && (M.inn s 1 4 && (!(k == 1) || (s == 1)))) := by
 rw [Bool.eq_iff_iff, M.sized_iff]
 simp only [Bool.and_eq_true, Bool.or_eq_true, M.inn_iff, Bool.not_eq_true', beq_eq_false_iff_ne, beq_iff_eq]
 omega
theorem spec_HoldValid (v : Value) (x : Hold) (q s : Int) (w : World) (h : Rv w v x) :
  Calls Tryz.prog 42 #[v, .int .i64 q, .int .i64 s] w fun e w' => e = .returned (.bool (M.hv x q s)) ∧ Ext w w' := by
 obtain ⟨a0, c0, rfl, hs, hl0⟩ := h.openHold
 clear h
 go_enter Tryz.func42, Tryz.ntmps42
 go_upto_region 1 with (fail)
 refine abs_world (fun W => Ext w W ∧ Bk W w.heap.size [.slice a0 x.Lst.length c0] 46) ⟨(Ext.refl _).alloc _, Bk.new _ _ _⟩ ?_
 rintro W ⟨e1, kA⟩
 have HE0 := zh e1
 have d0 := kA.cell (j := 0) rfl
 have hA := kA.lt
 replace hs := zh (hs.out.ext e1)
 clear e1 kA
 go_wp2
 go_loopw [7] (fun i wr => ∃ k : Nat, k ≤ x.Lst.length ∧ i = .int .i64 k ∧ (x.Lst.take k).all (fun n => M.inn n 0 255) = true ∧ wr = W) (fun i _ => x.Lst.length - (intOf i).toNat)
 case atStart => exact ⟨0, Nat.zero_le _, rfl, rfl, rfl⟩
 case round =>
  obtain ⟨k, hk, rfl, he, rfl⟩ := hrel
  have HE := zh he
  clear he
  by_cases hlt : k < x.Lst.length
  ·obtain ⟨b, o, n, rfl, hb, hx, hc, hrn⟩ := hs.out.atInt k hlt
   have HN := zh (all_take_succ (fun n => M.inn n 0 255) hx.out)
   cases h2 : M.inn n 0 255
   ·have HF : Hid (M.hv x q s = false) := zh (by unfold M.hv M.vals; rw [all_false_at (fun n => M.inn n 0 255) hx.out h2]; simp)
    go_wp2_with (go_at_call 43; refine (spec_In _ _ _ _).mono ?_; rintro e w' ⟨rfl, rfl⟩; rw [h2])
    go_ret
    exact ⟨wp_cond_ret HF.out.symm, HE0.out⟩
   ·have H2 := zh h2
    clear h2
    go_wp2_with (go_at_call 43; refine (spec_In _ _ _ _).mono ?_; rintro e w' ⟨rfl, rfl⟩; rw [H2.out])
    go_roundw
    case rel => exact ⟨k + 1, by omega, by go_num, by rw [HN.out, HE.out, H2.out]; rfl, by trivial⟩
    case measure => simp [intOf]; omega
  ·have HA : Hid (M.vals x.Lst = true) := zh (by unfold M.vals; rw [← all_take_all (fun n => M.inn n 0 255) x.Lst k (by omega)]; exact HE.out)
   have HF : Hid (M.hv x q s = (M.inn q 1 3 && (M.inn s 1 4 && ((!(q == 1) || (s == 1)) && decide ((x.Lst.length : Int) ≤ s))))) := zh (by unfold M.hv; rw [HA.out, Bool.and_true, M.sized_s]; simp only [Bool.and_assoc])
   cases h1 : M.inn q 1 3
   ·have HG := zh (HF.out.trans (and_f h1))
    go_wp2_with (go_at_call 43; refine (spec_In _ _ _ _).mono ?_; rintro e w' ⟨rfl, rfl⟩; rw [h1])
    go_ret
    exact ⟨by rw [HG.out]; first | done | rfl, HE0.out⟩
   cases h2 : M.inn s 1 4
   ·have HG := zh (HF.out.trans ((and_t h1).trans (and_f h2)))
    go_wp2_with (go_at_call 43; refine (spec_In _ _ _ _).mono ?_; rintro e w' ⟨rfl, rfl⟩; first | rw [h1] | rw [h2])
    go_ret
    exact ⟨by rw [HG.out]; first | done | rfl, HE0.out⟩
   have HG := zh (HF.out.trans ((and_t h1).trans (and_t h2)))
   clear HF
   by_cases h3 : q = 1
   ·subst h3
    by_cases h4 : s = 1
    ·subst h4
     go_wp2_with (go_at_call 43; refine (spec_In _ _ _ _).mono ?_; rintro e w' ⟨rfl, rfl⟩; first | rw [h1] | rw [h2])
     go_ret
     exact ⟨by rw [HG.out]; first | done | rfl, HE0.out⟩
    ·have h4' : (s == 1) = false := by simpa using h4
     have HK := zh (HG.out.trans (and_f (by rw [h4']; rfl)))
     clear h4
     go_wp2_with (go_at_call 43; refine (spec_In _ _ _ _).mono ?_; rintro e w' ⟨rfl, rfl⟩; first | rw [h1] | rw [h2])
     go_ret
     exact ⟨by rw [HK.out]; first | done | rfl, HE0.out⟩
   ·have h3' : (q == 1) = false := by simpa using h3
    have HK := zh (HG.out.trans (and_t (by rw [h3']; rfl)))
    have h3n : (q != 1) = true := by simpa using h3
    go_wp2_with (go_at_call 43; refine (spec_In _ _ _ _).mono ?_; rintro e w' ⟨rfl, rfl⟩; first | rw [h1] | rw [h2])
    go_ret
    exact ⟨by rw [HK.out]; first | done | rfl, HE0.out⟩
end Sk
