/- Contracts of functions of the given program, each under the condition that it states. -/
import Derived.Test.YtfokgfocnacocaaGreatChecked
import Derived.Deep.CutBlock
import Derived.Deep.CutRange
import Derived.Test.YtfokgfocnacocaaGreatValid
import Derived.Test.YtfokgfocnacocaaGreatBuild
import Derived.Test.YtfokgfocnacocaaGreatOwn
import Derived.Test.YtfokgfocnacocaaGreatTypes
import Derived.Test.YtfokgfocnacocaaGreatApp
import Derived.Test.YtfokgfocnacocaaGreatAcc
import Derived.Test.YtfokgfocnacocaaGreatChan
namespace Sk
open Go Go.Proofs Go.RowKit
set_option maxHeartbeats 2000000
set_option maxRecDepth 100000
set_option linter.unusedVariables false
set_option linter.unusedSimpArgs false
def M.tk (xs : List Slot) (k : Nat) : Int := ((xs.take k).map (·.Ticks)).sum
theorem M.tk_zero (xs : List Slot) : M.tk xs 0 = 0 := rfl
theorem M.tk_next {xs : List Slot} {k : Nat} {x : Slot} (h : xs[k]? = some x) : M.tk xs (k + 1) = M.tk xs k + x.Ticks := by
 unfold M.tk
 rw [take_snoc h]
 simp
theorem M.ssv_all {xs : List Slot} {n : Int} (h : M.ssv xs n = true) : 1 ≤ xs.length ∧ xs.length ≤ 12 ∧ (0 ≤ n ∧ n ≤ 5) ∧ ∀ x ∈ xs, (1 ≤ x.Ticks ∧ x.Ticks ≤ 20) ∧ -1 ≤ x.Who ∧ x.Who ≤ n - 1 := by
 unfold M.ssv at h
 simp only [Bool.and_eq_true, M.inn_iff, List.all_eq_true, M.slv] at h
 exact ⟨by omega, by omega, h.1, fun x hx => h.2.2 x hx⟩
theorem M.tk_bd {xs : List Slot} (h : ∀ x ∈ xs, 1 ≤ x.Ticks ∧ x.Ticks ≤ 20) : ∀ k, k ≤ xs.length → (k : Int) ≤ M.tk xs k ∧ M.tk xs k ≤ 20 * k := by
 intro k
 induction k with
 | zero => intro _; exact ⟨Int.le_refl _, Int.le_refl _⟩
 | succ k ih =>
  intro hk
  obtain ⟨x, hx⟩ : ∃ x, xs[k]? = some x := ⟨_, List.getElem?_eq_getElem (by omega)⟩
  rw [M.tk_next hx]
  have := ih (by omega)
  have := h x (List.mem_of_getElem? hx)
  omega
theorem spec_FrameTicks (v : Value) (xs : List Slot) (n : Int) (w : World) (h : Rs w v xs) (hv : M.ssv xs n = true) :
  Calls Tryz.prog 66 #[v, .int .i64 n] w fun e w' => e = .returned (.int .i64 (M.tk xs xs.length)) ∧ Ext w w' := by
 obtain ⟨a, c, rfl, hl⟩ := h.form
 have H := zh h
 have hall := M.ssv_all hv
 have HV := zh hv
 obtain ⟨hx1, hx12, _, hxx⟩ := hall
 have HT := zh (M.tk_bd (fun x hx => (hxx x hx).1))
 clear h hv hxx
 go_enter Tryz.func66, Tryz.ntmps66
 go_wp2_with (go_at_call 65; refine (spec_SlotsValid _ xs n w H.out).mono ?_; rintro e w1 ⟨rfl, he⟩; rw [HV.out]; have HE1 := zh he; clear he)
 go_loopw [5, 6] (fun t i wr => ∃ k : Nat, k ≤ xs.length ∧ t = .int .i64 (M.tk xs k) ∧ i = .int .i64 k ∧ Ext w wr) (fun _ i _ => xs.length - (intOf i).toNat)
 case atStart => exact ⟨0, Nat.zero_le _, rfl, rfl, HE1.out⟩
 case round =>
  clear HE1
  obtain ⟨k, hk, rfl, rfl, hq⟩ := hrel
  have HQ := zh hq
  clear hq
  have hb := HT.out k hk
  by_cases hkt : k < xs.length
  ·obtain ⟨b, o, x, rfl, hbl, hx, hc0, hc1, hr0, hr1, hvx⟩ := (H.out.ext HQ.out).atSlot k hkt
   have hb2 := HT.out (k + 1) (by omega)
   have HN := zh (M.tk_next hx.out)
   have hb3 : M.tk xs (k + 1) = M.tk xs k + x.Ticks := HN.out
   rw [hb3] at hb2
   clear hb3
   go_wp2
   go_roundw
   case rel => exact ⟨k + 1, by omega, by rw [HN.out], by go_num, HQ.out⟩
   case measure => simp [intOf]; omega
  ·obtain rfl : k = xs.length := by omega
   go_wp2
   go_ret
   exact ⟨rfl, HQ.out⟩
set_option maxHeartbeats 1000000
def M.ovh (h n : Int) (x : Order) : Bool :=
 if x.Op = 1 then M.inn x.A 0 h && M.inn x.B 0 255
 else if x.Op = 2 ∨ x.Op = 3 then M.inn x.A 0 h && M.inn x.B 0 h
 else if x.Op = 4 then M.inn x.A 0 (n - 1) && M.inn x.B 0 h
 else if x.Op = 5 ∨ x.Op = 6 then M.inn x.A 0 7 && M.inn x.B 0 h
 else if x.Op = 7 then M.inn x.A 0 h && x.B == 0
 else if x.Op = 0 ∨ x.Op = 8 then x.A == 0 && x.B == 0 else false
def M.ov (c n : Int) (x : Order) : Bool := M.ovh (c - 1) n x
def M.prv (xs : List Order) (c : Int) : Bool := M.inn xs.length 1 20 && (M.inn c 1 8 && xs.all (M.ov c xs.length))
theorem wrap_small {n : Int} (h1 : -9223372036854775808 ≤ n) (h2 : n ≤ 9223372036854775807) : IntKind.i64.wrap n = n := by
 rw [IntKind.wrap_i64]; omega
theorem impl_Order_valid (v : Value) (x : Order) (c n : Int) (w : World) (h : Rv w v x) (hc1 : 1 ≤ c) (hc2 : c ≤ 8) (hn1 : 1 ≤ n) (hn2 : n ≤ 20) :
  Calls Tryz.prog 118 #[v, .int .i64 c, .int .i64 n] w fun e w' => e = .returned (.bool (M.ov c n x)) ∧ Ext w w' := by
 obtain ⟨rfl, hr0, hr1, hr2⟩ := h.openOrder
 clear h
 obtain ⟨op, a, b⟩ := x
 simp only at hr0 hr1 hr2 ⊢
 have e0 := zh ((Ext.refl w).alloc (.cells #[.int .i64 op, .int .i64 a, .int .i64 b] 67))
 go_enter Tryz.func118, Tryz.ntmps118
 go_upto_region 1 with (fail)
 refine abs_world (fun W => Ext w W ∧ Bk W w.heap.size [.int .i64 op, .int .i64 a, .int .i64 b] 67) ⟨(Ext.refl _).alloc _, Bk.new _ _ _⟩ ?_
 rintro W ⟨e1, kA⟩
 have HE := zh e1
 obtain ⟨d0, d1, d2⟩ := Bk.k3 kA
 have hA := kA.lt
 clear e1 kA
 go_region_held3 (fun u => u.cell? ⟨w.heap.size, 1, none⟩ = some (.int .i64 a) ∧ u.cell? ⟨w.heap.size, 2, none⟩ = some (.int .i64 b)) (first
  | go_keep
  | exact ⟨d1, d2⟩)
  (first
  | (go_at_call 34; refine (impl_in _ _ _ _).mono ?_; rintro e w' ⟨rfl, rfl⟩))
 have HW := zh HE.out.drew
 go_upto_block 0 with (fail)
 clear HE
 by_cases h1 : op = 1
 ·subst h1
  have hm : Hid (M.ov c n ⟨1, a, b⟩ = ((M.inn a 0 (c - 1)) && (M.inn b 0 255))) := zh rfl
  go_wp2_with (go_at_call 34; refine (impl_in _ _ _ _).mono ?_; rintro e w' ⟨rfl, rfl⟩)
  all_goals go_ret
  all_goals first
   | exact ⟨by rw [hm.out, and_t (by assumption)]; rfl, HW.out⟩
   | exact ⟨by rw [hm.out, and_f (Bool.eq_false_iff.2 (by assumption))]; rfl, HW.out⟩
 by_cases h2 : op = 2
 ·subst h2
  have hm : Hid (M.ov c n ⟨2, a, b⟩ = ((M.inn a 0 (c - 1)) && (M.inn b 0 (c - 1)))) := zh rfl
  go_wp2_with (go_at_call 34; refine (impl_in _ _ _ _).mono ?_; rintro e w' ⟨rfl, rfl⟩)
  all_goals go_ret
  all_goals first
   | exact ⟨by rw [hm.out, and_t (by assumption)]; rfl, HW.out⟩
   | exact ⟨by rw [hm.out, and_f (Bool.eq_false_iff.2 (by assumption))]; rfl, HW.out⟩
 by_cases h3 : op = 3
 ·subst h3
  have hm : Hid (M.ov c n ⟨3, a, b⟩ = ((M.inn a 0 (c - 1)) && (M.inn b 0 (c - 1)))) := zh rfl
  go_wp2_with (go_at_call 34; refine (impl_in _ _ _ _).mono ?_; rintro e w' ⟨rfl, rfl⟩)
  all_goals go_ret
  all_goals first
   | exact ⟨by rw [hm.out, and_t (by assumption)]; rfl, HW.out⟩
   | exact ⟨by rw [hm.out, and_f (Bool.eq_false_iff.2 (by assumption))]; rfl, HW.out⟩
 by_cases h4 : op = 4
 ·subst h4
  have hm : Hid (M.ov c n ⟨4, a, b⟩ = ((M.inn a 0 (n - 1)) && (M.inn b 0 (c - 1)))) := zh rfl
  go_wp2_with (go_at_call 34; refine (impl_in _ _ _ _).mono ?_; rintro e w' ⟨rfl, rfl⟩)
  all_goals go_ret
  all_goals first
   | exact ⟨by rw [hm.out, and_t (by assumption)]; rfl, HW.out⟩
   | exact ⟨by rw [hm.out, and_f (Bool.eq_false_iff.2 (by assumption))]; rfl, HW.out⟩
 by_cases h5 : op = 5
 ·subst h5
  have hm : Hid (M.ov c n ⟨5, a, b⟩ = ((M.inn a 0 7) && (M.inn b 0 (c - 1)))) := zh rfl
  go_wp2_with (go_at_call 34; refine (impl_in _ _ _ _).mono ?_; rintro e w' ⟨rfl, rfl⟩)
  all_goals go_ret
  all_goals first
   | exact ⟨by rw [hm.out, and_t (by assumption)]; rfl, HW.out⟩
   | exact ⟨by rw [hm.out, and_f (Bool.eq_false_iff.2 (by assumption))]; rfl, HW.out⟩
 by_cases h6 : op = 6
 ·subst h6
  have hm : Hid (M.ov c n ⟨6, a, b⟩ = ((M.inn a 0 7) && (M.inn b 0 (c - 1)))) := zh rfl
  go_wp2_with (go_at_call 34; refine (impl_in _ _ _ _).mono ?_; rintro e w' ⟨rfl, rfl⟩)
  all_goals go_ret
  all_goals first
   | exact ⟨by rw [hm.out, and_t (by assumption)]; rfl, HW.out⟩
   | exact ⟨by rw [hm.out, and_f (Bool.eq_false_iff.2 (by assumption))]; rfl, HW.out⟩
 by_cases h7 : op = 7
 ·subst h7
  have hm : Hid (M.ov c n ⟨7, a, b⟩ = ((M.inn a 0 (c - 1)) && (b == 0))) := zh rfl
  go_wp2_with (go_at_call 34; refine (impl_in _ _ _ _).mono ?_; rintro e w' ⟨rfl, rfl⟩)
  all_goals go_ret
  all_goals first
   | exact ⟨by rw [hm.out, and_t (by assumption)]; rfl, HW.out⟩
   | exact ⟨by rw [hm.out, and_f (Bool.eq_false_iff.2 (by assumption))]; rfl, HW.out⟩
 by_cases h0 : op = 0
 ·subst h0
  have hm : Hid (M.ov c n ⟨0, a, b⟩ = ((a == 0) && (b == 0))) := zh rfl
  by_cases ha : a = 0
  ·subst ha
   go_wp2
   go_ret
   exact ⟨by rw [hm.out]; rfl, HW.out⟩
  ·have ha2 : (a == 0) = false := by simpa using ha
   have HM := zh (hm.out.trans (and_f ha2))
   clear hm
   go_wp2
   go_ret
   exact ⟨by rw [HM.out]; first | done | rfl, HW.out⟩
 by_cases h8 : op = 8
 ·subst h8
  have hm : Hid (M.ov c n ⟨8, a, b⟩ = ((a == 0) && (b == 0))) := zh rfl
  by_cases ha : a = 0
  ·subst ha
   go_wp2
   go_ret
   exact ⟨by rw [hm.out]; rfl, HW.out⟩
  ·have ha2 : (a == 0) = false := by simpa using ha
   have HM := zh (hm.out.trans (and_f ha2))
   clear hm
   go_wp2
   go_ret
   exact ⟨by rw [HM.out]; first | done | rfl, HW.out⟩
 have hm : Hid (M.ov c n ⟨op, a, b⟩ = false) := zh (by unfold M.ov M.ovh; simp [h1, h2, h3, h4, h5, h6, h7, h0, h8])
 replace h1 : (op == 1) = false := by simpa using h1
 replace h2 : (op == 2) = false := by simpa using h2
 replace h3 : (op == 3) = false := by simpa using h3
 replace h4 : (op == 4) = false := by simpa using h4
 replace h5 : (op == 5) = false := by simpa using h5
 replace h6 : (op == 6) = false := by simpa using h6
 replace h7 : (op == 7) = false := by simpa using h7
 replace h0 : (op == 0) = false := by simpa using h0
 replace h8 : (op == 8) = false := by simpa using h8
 go_wp2
 go_ret
 exact ⟨by rw [hm.out]; first | done | rfl, HW.out⟩
theorem impl_ProgramValid_1 (v : Value) (x : Order) (b1 b2 : Nat) (c : Int) (n : Nat) (a : Option Addr) (cp : Nat) (w : World) (h : Rv w v x) (hb1 : b1 < w.heap.size) (hb2 : b2 < w.heap.size)
  (hc : w.cell? ⟨b1, 0, none⟩ = some (.int .i64 c)) (hl : w.cell? ⟨b2, 0, none⟩ = some (.slice a n cp)) (hc1 : 1 ≤ c) (hc2 : c ≤ 8) (hn1 : 1 ≤ n) (hn2 : n ≤ 20) :
  Calls Tryz.prog 117 #[v, .pointer (some ⟨b1, 0, none⟩), .pointer (some ⟨b2, 0, none⟩)] w fun e w' => e = .returned (.bool (!M.ov c n x)) ∧ Ext w w' := by
 have H := zh h
 obtain ⟨rfl, hr0, hr1, hr2⟩ := h.openOrder
 clear h
 go_enter Tryz.func117, Tryz.ntmps117
 go_wp2_with (go_at_call 118; refine (impl_Order_valid _ x c n _ (H.out.ext ((Ext.refl w).alloc _)) hc1 hc2 (by omega) (by omega)).mono ?_; rintro e w' ⟨rfl, he⟩; have HE := zh he; clear he)
 go_ret
 exact ⟨rfl, ((Ext.refl w).alloc _).tr HE.out⟩
theorem impl_ProgramValid (v : Value) (xs : List Order) (c : Int) (w : World) (h : Rs w v xs) :
  Calls Tryz.prog 77 #[v, .int .i64 c] w fun e w' => e = .returned (.bool (M.prv xs c)) ∧ Ext w w' := by
 have H := zh h
 obtain ⟨a, cp, rfl, hl⟩ := h.form
 have e0 := zh (((Ext.refl w).alloc (.cells #[.slice a xs.length cp] 65)).alloc (.cells #[.int .i64 c] 3))
 clear h
 cases h1 : M.inn xs.length 1 20
 ·have hm := zh ((and_f h1).symm : _ = M.prv xs c)
  go_enter Tryz.func77, Tryz.ntmps77
  go_wp2_with (go_at_call 34; refine (impl_in _ _ _ _).mono ?_; rintro e w' ⟨rfl, rfl⟩; rw [h1])
  go_ret
  exact ⟨wp_cond_ret hm.out, e0.out⟩
 ·obtain ⟨hn1, hn2⟩ := M.inn_iff.1 h1
  cases h2 : M.inn c 1 8
  ·have hm := zh (((and_t h1).trans (and_f h2)).symm : _ = M.prv xs c)
   go_enter Tryz.func77, Tryz.ntmps77
   go_wp2_with (go_at_call 34; refine (impl_in _ _ _ _).mono ?_; rintro e w' ⟨rfl, rfl⟩; first | rw [h1] | rw [h2])
   go_ret
   exact ⟨wp_cond_ret hm.out, e0.out⟩
  ·obtain ⟨hc1, hc2⟩ := M.inn_iff.1 h2
   have HX := zh (has_Order 117 #[.pointer (some ⟨w.heap.size + 1, 0, none⟩), .pointer (some ⟨w.heap.size, 0, none⟩)] (fun x => !M.ov c xs.length x) _ xs _ (H.out.ext e0.out) (enter_of Tryz.func117 (by kernel_rfl) (by kernel_rfl))
    (fun w1 v x he _ hv => impl_ProgramValid_1 v x _ _ c xs.length a cp w1 hv (by have := he.sz; simp at this; omega) (by have := he.sz; simp at this; omega)
     ((cell_ext he (by simp <;> omega)).trans ((Bk.new1 _ _ _ _).cell (j := 0) rfl)) ((cell_ext he (by simp <;> omega)).trans (((Bk.new _ _ _).ext ((Ext.refl _).alloc _)).cell (j := 0) rfl)) hc1 hc2 (by omega) (by omega)))
   have hm := zh ((not_any_not (M.ov c xs.length) xs).trans ((and_t h1).trans (and_t h2)).symm : _ = M.prv xs c)
   go_enter Tryz.func77, Tryz.ntmps77
   go_wp2_with (first | (go_at_call 34; refine (impl_in _ _ _ _).mono ?_; rintro e w' ⟨rfl, rfl⟩; first | rw [h1] | rw [h2]) | (go_at_call 116; refine HX.out.mono ?_; rintro e w' ⟨rfl, he⟩))
   go_ret
   exact ⟨wp_cond_ret hm.out, e0.out.tr he⟩
theorem spec_ProgramValid (v : Value) (xs : List Order) (c : Int) (w : World) (h : Rs w v xs) :
  Calls Tryz.prog 85 #[v, .int .i64 c] w fun e w' => e = .returned (.bool (M.prv xs c)) ∧ Ext w w' := by
 have H := zh h
 obtain ⟨a, cp, rfl, hl⟩ := h.form
 clear h
 obtain ⟨C, hC⟩ : ∃ C, IntKind.i64.wrap (c - 1) = C := ⟨_, rfl⟩
 have hn1 : 0 ≤ (xs.length : Int) := by omega
 go_enter Tryz.func85, Tryz.ntmps85
 go_wp2
 go_loopw [5, 6, 7, 8, 9] (fun i _ _ _ _ wr => ∃ k : Nat, k ≤ xs.length ∧ i = .int .i64 k ∧ (xs.take k).all (M.ovh C xs.length) = true ∧ Ext w wr) (fun i _ _ _ _ _ => xs.length - (intOf i).toNat)
 case atStart => exact ⟨0, Nat.zero_le _, rfl, rfl, .refl _⟩
 case round =>
  obtain ⟨k, hk, rfl, he, hq⟩ := hrel
  have HE := zh he
  have HQ := zh hq
  clear he hq
  by_cases hlt : k < xs.length
  ·obtain ⟨b0, o0, x, rfl, hb, hx, hc0, hc1, hc2, hr0, hr1, hr2, hv⟩ := (H.out.ext HQ.out).atOrder k hlt
   obtain ⟨op, a, b⟩ := x
   simp only at hx hc0 hc1 hc2 hr0 hr1 hr2
   go_upto_block 2 with (go_at_call 43; refine (spec_In _ _ _ _).mono ?_; rintro e w' ⟨rfl, rfl⟩)
   try simp only [hC]
   refine abs_world (fun W => Ext wr W ∧ Bk W wr.heap.size [.int .i64 op, .int .i64 a, .int .i64 b] 67) ⟨(Ext.refl _).alloc _, Bk.new _ _ _⟩ ?_
   rintro W ⟨e1, kA⟩
   have d1 := kA.cell (j := 1) rfl
   have d2 := kA.cell (j := 2) rfl
   have hA := kA.lt
   have HW := zh (HQ.out.tr e1)
   clear e1 kA hc0 hc1 hc2
   replace hC := zh hC
   go_cut [7, 8, 9] from 10 to 87 (fun _ _ ok wc => ok = .bool (M.ovh C xs.length ⟨op, a, b⟩) ∧ Ext w wc)
   case first =>
    by_cases h1 : op = 1
    ·subst h1
     have hm : Hid (M.ovh C xs.length ⟨1, a, b⟩ = ((M.inn a 0 C) && (M.inn b 0 255))) := zh rfl
     go_wp2_with (go_at_call 43; refine (spec_In _ _ _ _).mono ?_; rintro e w' ⟨rfl, rfl⟩)
     all_goals go_meet
     all_goals first
      | exact ⟨by rw [hm.out, and_t (by assumption)]; first | done | rfl, HW.out⟩
      | exact ⟨by rw [hm.out, and_f (Bool.eq_false_iff.2 (by assumption))]; first | done | rfl, HW.out⟩
    by_cases h2 : op = 2
    ·subst h2
     have hm : Hid (M.ovh C xs.length ⟨2, a, b⟩ = ((M.inn a 0 C) && (M.inn b 0 C))) := zh rfl
     go_wp2_with (go_at_call 43; refine (spec_In _ _ _ _).mono ?_; rintro e w' ⟨rfl, rfl⟩)
     all_goals go_meet
     all_goals first
      | exact ⟨by rw [hm.out, and_t (by assumption)]; first | done | rfl, HW.out⟩
      | exact ⟨by rw [hm.out, and_f (Bool.eq_false_iff.2 (by assumption))]; first | done | rfl, HW.out⟩
    by_cases h3 : op = 3
    ·subst h3
     have hm : Hid (M.ovh C xs.length ⟨3, a, b⟩ = ((M.inn a 0 C) && (M.inn b 0 C))) := zh rfl
     go_wp2_with (go_at_call 43; refine (spec_In _ _ _ _).mono ?_; rintro e w' ⟨rfl, rfl⟩)
     all_goals go_meet
     all_goals first
      | exact ⟨by rw [hm.out, and_t (by assumption)]; first | done | rfl, HW.out⟩
      | exact ⟨by rw [hm.out, and_f (Bool.eq_false_iff.2 (by assumption))]; first | done | rfl, HW.out⟩
    by_cases h4 : op = 4
    ·subst h4
     have hm : Hid (M.ovh C xs.length ⟨4, a, b⟩ = ((M.inn a 0 (xs.length - 1)) && (M.inn b 0 C))) := zh rfl
     go_wp2_with (go_at_call 43; refine (spec_In _ _ _ _).mono ?_; rintro e w' ⟨rfl, rfl⟩)
     all_goals go_meet
     all_goals first
      | exact ⟨by rw [hm.out, and_t (by assumption)]; first | done | rfl, HW.out⟩
      | exact ⟨by rw [hm.out, and_f (Bool.eq_false_iff.2 (by assumption))]; first | done | rfl, HW.out⟩
    by_cases h5 : op = 5
    ·subst h5
     have hm : Hid (M.ovh C xs.length ⟨5, a, b⟩ = ((M.inn a 0 7) && (M.inn b 0 C))) := zh rfl
     go_wp2_with (go_at_call 43; refine (spec_In _ _ _ _).mono ?_; rintro e w' ⟨rfl, rfl⟩)
     all_goals go_meet
     all_goals first
      | exact ⟨by rw [hm.out, and_t (by assumption)]; first | done | rfl, HW.out⟩
      | exact ⟨by rw [hm.out, and_f (Bool.eq_false_iff.2 (by assumption))]; first | done | rfl, HW.out⟩
    by_cases h6 : op = 6
    ·subst h6
     have hm : Hid (M.ovh C xs.length ⟨6, a, b⟩ = ((M.inn a 0 7) && (M.inn b 0 C))) := zh rfl
     go_wp2_with (go_at_call 43; refine (spec_In _ _ _ _).mono ?_; rintro e w' ⟨rfl, rfl⟩)
     all_goals go_meet
     all_goals first
      | exact ⟨by rw [hm.out, and_t (by assumption)]; first | done | rfl, HW.out⟩
      | exact ⟨by rw [hm.out, and_f (Bool.eq_false_iff.2 (by assumption))]; first | done | rfl, HW.out⟩
    by_cases h7 : op = 7
    ·subst h7
     have hm : Hid (M.ovh C xs.length ⟨7, a, b⟩ = ((M.inn a 0 C) && (b == 0))) := zh rfl
     go_wp2_with (go_at_call 43; refine (spec_In _ _ _ _).mono ?_; rintro e w' ⟨rfl, rfl⟩)
     all_goals go_meet
     all_goals first
      | exact ⟨by rw [hm.out, and_t (by assumption)]; first | done | rfl, HW.out⟩
      | exact ⟨by rw [hm.out, and_f (Bool.eq_false_iff.2 (by assumption))]; first | done | rfl, HW.out⟩
    by_cases h0 : op = 0
    ·subst h0
     have hm : Hid (M.ovh C xs.length ⟨0, a, b⟩ = ((a == 0) && (b == 0))) := zh rfl
     by_cases ha : a = 0
     ·subst ha
      go_wp2
      go_meet
      exact ⟨by rw [hm.out]; first | done | rfl, HW.out⟩
     ·have ha2 : (a == 0) = false := by simpa using ha
      have HM := zh (hm.out.trans (and_f ha2))
      clear hm
      go_wp2
      go_meet
      exact ⟨by rw [HM.out]; first | done | rfl, HW.out⟩
    by_cases h8 : op = 8
    ·subst h8
     have hm : Hid (M.ovh C xs.length ⟨8, a, b⟩ = ((a == 0) && (b == 0))) := zh rfl
     by_cases ha : a = 0
     ·subst ha
      go_wp2
      go_meet
      exact ⟨by rw [hm.out]; first | done | rfl, HW.out⟩
     ·have ha2 : (a == 0) = false := by simpa using ha
      have HM := zh (hm.out.trans (and_f ha2))
      clear hm
      go_wp2
      go_meet
      exact ⟨by rw [HM.out]; first | done | rfl, HW.out⟩
    have hm : Hid (M.ovh C xs.length ⟨op, a, b⟩ = false) := zh (by unfold M.ovh; simp [h1, h2, h3, h4, h5, h6, h7, h0, h8])
    replace h1 : (op == 1) = false := by simpa using h1
    replace h2 : (op == 2) = false := by simpa using h2
    replace h3 : (op == 3) = false := by simpa using h3
    replace h4 : (op == 4) = false := by simpa using h4
    replace h5 : (op == 5) = false := by simpa using h5
    replace h6 : (op == 6) = false := by simpa using h6
    replace h7 : (op == 7) = false := by simpa using h7
    replace h0 : (op == 0) = false := by simpa using h0
    replace h8 : (op == 8) = false := by simpa using h8
    go_wp2
    go_meet
    exact ⟨by rw [hm.out]; first | done | rfl, HW.out⟩
   case rest =>
    obtain ⟨rfl, hqc⟩ := hcut
    have HQC := zh hqc
    clear hqc hA d1 d2
    obtain ⟨r, hr⟩ : ∃ r, M.ovh C xs.length ⟨op, a, b⟩ = r := ⟨_, rfl⟩
    rw [hr]
    have HN := zh (all_take_succ (M.ovh C xs.length) hx.out)
    cases r
    ·have HF : Hid (M.prv xs c = false) := zh (by
      have h1 := all_false_at (M.ovh C xs.length) hx.out hr
      unfold M.prv
      cases h2 : M.inn c 1 8
      ·simp
      ·have h3 := M.inn_iff.1 h2
       have : C = c - 1 := by rw [← hC.out]; exact wrap_small (by omega) (by omega)
       unfold M.ov
       rw [← this, h1]; simp)
     replace hr := zh hr
     go_wp2
     go_ret
     exact ⟨wp_cond_ret HF.out.symm, HQC.out⟩
    ·replace hr := zh hr
     go_wp2
     go_roundw
     case rel => exact ⟨k + 1, by omega, by go_num, by rw [HN.out, HE.out, hr.out]; rfl, HQC.out⟩
     case measure => simp [intOf]; omega
  ·have HA : Hid (xs.all (M.ovh C xs.length) = true) := zh (by rw [← all_take_all (M.ovh C xs.length) xs k (by omega)]; exact HE.out)
   have HF : Hid (M.prv xs c = (M.inn xs.length 1 20 && M.inn c 1 8)) := zh (by
    unfold M.prv
    cases h2 : M.inn c 1 8
    ·simp
    ·have h3 := M.inn_iff.1 h2
     have : C = c - 1 := by rw [← hC]; exact wrap_small (by omega) (by omega)
     unfold M.ov
     rw [← this, HA.out]; simp)
   clear hC
   go_wp2_with (go_at_call 43; refine (spec_In _ _ _ _).mono ?_; rintro e w' ⟨rfl, rfl⟩)
   all_goals go_ret
   all_goals first
    | exact ⟨by rw [HF.out, and_t (by assumption)]; first | done | rfl, HQ.out⟩
    | exact ⟨by rw [HF.out, and_f (Bool.eq_false_iff.2 (by assumption))]; first | done | rfl, HQ.out⟩
end Sk
