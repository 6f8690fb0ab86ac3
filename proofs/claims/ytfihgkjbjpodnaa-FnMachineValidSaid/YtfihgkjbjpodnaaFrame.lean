/- Contracts of functions of the given program, each under the condition that it states. -/
import Derived.Test.YtfihgkjbjpodnaaChecked
import Derived.Deep.CutBlock
import Derived.Deep.CutRange
import Derived.Laws.CopyOwn
import Derived.Test.YtfihgkjbjpodnaaCv
import Derived.Test.YtfihgkjbjpodnaaNums
import Derived.Test.YtfihgkjbjpodnaaDrawW
import Derived.Test.YtfihgkjbjpodnaaQt
import Derived.Test.YtfihgkjbjpodnaaValid
import Derived.Test.YtfihgkjbjpodnaaBuild
import Derived.Test.YtfihgkjbjpodnaaRead
import Derived.Test.YtfihgkjbjpodnaaTypes
import Derived.Test.YtfihgkjbjpodnaaApp
import Derived.Test.YtfihgkjbjpodnaaScal
import Derived.Test.YtfihgkjbjpodnaaAcc
import Derived.Test.YtfihgkjbjpodnaaChan
import Derived.Test.YtfihgkjbjpodnaaFind
import Derived.Test.YtfihgkjbjpodnaaDraw
namespace Sk
open Go Go.Proofs Go.RowKit
set_option maxHeartbeats 1000000
set_option maxRecDepth 100000
set_option linter.unusedVariables false
set_option linter.unusedSimpArgs false
theorem info_int : (Try.prog.info? 3).map (fun i => (i.zero, i.size, i.bytes)) = some (some (.int .i64 0), 1, 8) := by kernel_rfl
theorem make_int (xs : Nat) (hl : xs ≤ 1048576) (u : World) : (Instr.makeSlice 36 (.int .i64 xs) (.int .i64 xs)).run Try.prog u =
   .ok (.slice (some ⟨u.heap.size, 0, none⟩) xs xs) (u.alloc (.cells (madeCells #[.int .i64 0] (xs * 1)) 3)) := by
 obtain ⟨i1, hi1, hq0, hq1, hq2⟩ := info_parts info_int
 have h := run_make (P := Try.prog) u 36 3 i1 (.int .i64 0) Try.underlying36 hi1 hq0 .i64 .i64 xs xs (by omega) (Int.le_refl _) (by rw [hq2]; omega) (by omega)
 simpa [hq1, Value.cells] using h
theorem Oa.sh0 {α : Type} [GT α] {e : TypeId} {L : Nat} {w : World} {v : Value} {xs : List α} {F : List Nat} (h : Oa e L w v xs F) : ∃ a n c, v = .slice a n c := by
 obtain ⟨a, c, h, _⟩ := h.form; exact ⟨a, _, c, h⟩
def M.frame (xs : List Slot) : List Int := xs.flatMap fun s => List.replicate s.Ticks.toNat s.Who
theorem M.frame_next {xs : List Slot} {k : Nat} {x : Slot} (h : xs[k]? = some x) : M.frame (xs.take (k + 1)) = M.frame (xs.take k) ++ List.replicate x.Ticks.toNat x.Who := by
 unfold M.frame; rw [take_snoc h]; simp
theorem M.frame_len {xs : List Slot} (h : ∀ x ∈ xs, 1 ≤ x.Ticks ∧ x.Ticks ≤ 20) : ((M.frame xs).length : Int) = M.tk xs xs.length := by
 unfold M.tk
 rw [List.take_length]
 induction xs with
 | nil => rfl
 | cons x xs ih =>
  have h1 := h x (List.mem_cons_self ..)
  have h2 := ih (fun y hy => h y (List.mem_cons_of_mem _ hy))
  simp only [M.frame, List.flatMap_cons, List.length_append, List.length_replicate, List.map_cons, List.sum_cons] at h2 ⊢
  omega
theorem M.frame_le {xs : List Slot} (h : ∀ x ∈ xs, 1 ≤ x.Ticks ∧ x.Ticks ≤ 20) (k : Nat) : (M.frame (xs.take k)).length ≤ 20 * xs.length := by
 have h1 := M.frame_len (xs := xs.take k) (fun x hx => h x (List.mem_of_mem_take hx))
 have h2 := M.tk_bd (xs := xs.take k) (fun x hx => h x (List.mem_of_mem_take hx)) _ (Nat.le_refl _)
 rw [List.length_take] at h2
 rw [List.length_take] at h1
 omega
set_option maxHeartbeats 1500000
def M.fl (xs : List Slot) : Nat := (M.frame xs).length
def M.who (xs : List Slot) (t : Int) : Int := (M.frame xs).getD (t.toNat % M.fl xs) 0
def M.own (xs : List Slot) (n : Int) (t : Int) : Int := (t.toNat / M.fl xs * (M.frame xs).count n + ((M.frame xs).take (t.toNat % M.fl xs)).count n : Nat)
structure M.SL (xs : List Slot) : Prop where
 len : 1 ≤ xs.length ∧ xs.length ≤ 12
 tk : ∀ x ∈ xs, 1 ≤ x.Ticks ∧ x.Ticks ≤ 20
theorem M.SL.of {xs : List Slot} {n : Int} (h : M.ssv xs n = true) : M.SL xs := by
 obtain ⟨h1, h2, _, h3⟩ := M.ssv_all h
 exact ⟨⟨h1, h2⟩, fun x hx => (h3 x hx).1⟩
theorem M.SL.fl {xs : List Slot} (h : M.SL xs) : 1 ≤ M.fl xs ∧ M.fl xs ≤ 240 := by
 have h1 := M.frame_len h.tk
 have h2 := M.tk_bd h.tk _ (Nat.le_refl _)
 have := h.len
 unfold M.fl
 omega
theorem M.SL.fl_tk {xs : List Slot} (h : M.SL xs) : (M.fl xs : Int) = M.tk xs xs.length := M.frame_len h.tk
theorem M.own_bd {xs : List Slot} {n t : Int} (ht : t ≤ 1000000) : 0 ≤ M.own xs n t ∧ M.own xs n t ≤ 1000000 := by
 unfold M.own
 refine ⟨Int.natCast_nonneg _, ?_⟩
 have h1 : ((M.frame xs).take (t.toNat % M.fl xs)).count n ≤ t.toNat % M.fl xs := Nat.le_trans List.count_le_length (by rw [List.length_take]; omega)
 have h2 : (M.frame xs).count n ≤ M.fl xs := List.count_le_length
 have h3 : t.toNat / M.fl xs * (M.frame xs).count n ≤ t.toNat / M.fl xs * M.fl xs := Nat.mul_le_mul_left _ h2
 have h4 := Nat.div_add_mod t.toNat (M.fl xs)
 rw [Nat.mul_comm] at h4
 omega
theorem M.who_mem {xs : List Slot} (h : M.SL xs) (t : Int) : ∃ x ∈ xs, M.who xs t = x.Who := by
 have hl := h.fl
 unfold M.who
 have hlt : t.toNat % M.fl xs < (M.frame xs).length := Nat.mod_lt _ hl.1
 rw [List.getD_eq_getElem?_getD, List.getElem?_eq_getElem hlt, Option.getD_some]
 have hm := List.getElem_mem hlt
 obtain ⟨x, hx, hm⟩ := List.mem_flatMap.1 hm
 exact ⟨x, hx, (List.mem_replicate.1 hm).2⟩
theorem M.frame_at {xs : List Slot} (h : ∀ x ∈ xs, 1 ≤ x.Ticks ∧ x.Ticks ≤ 20) {k r : Nat} {x : Slot} (hx : xs[k]? = some x) (h1 : M.tk xs k ≤ r) (h2 : (r : Int) < M.tk xs k + x.Ticks) : (M.frame xs)[r]? = some x.Who := by
 have hk := lt_of_some hx
 have hsp : M.frame xs = M.frame (xs.take k) ++ (List.replicate x.Ticks.toNat x.Who ++ M.frame (xs.drop (k + 1))) := by
  have e : xs = xs.take k ++ x :: xs.drop (k + 1) := by
   obtain ⟨hl, rfl⟩ := List.getElem?_eq_some_iff.1 hx
   rw [List.getElem_cons_drop, List.take_append_drop]
  conv => lhs; rw [e]
  unfold M.frame
  simp
 have hl := M.frame_len (xs := xs.take k) (fun y hy => h y (List.mem_of_mem_take hy))
 have hl2 : M.tk (xs.take k) (xs.take k).length = M.tk xs k := by unfold M.tk; rw [List.take_length]
 rw [hl2] at hl
 have hxt := h x (List.mem_of_getElem? hx)
 rw [hsp, List.getElem?_append_right (by omega), List.getElem?_append_left (by rw [List.length_replicate]; omega), List.getElem?_replicate, if_pos (by omega)]
theorem spec_WhoRunsG (v : Value) (xs : List Slot) (N t : Int) (w : World) (h : Rs w v xs) (hv : M.ssv xs N = true) (ht0 : 0 ≤ t) (ht : t ≤ 1000000) :
  Calls Try.prog 61 #[v, .int .i64 N, .int .i64 t] w fun e w' => e = .returned (.int .i64 (M.who xs t)) ∧ Ext w w' := by
 obtain ⟨t', rfl⟩ : ∃ t' : Nat, t = t' := ⟨t.toNat, by omega⟩
 obtain ⟨a, c, rfl, hl⟩ := h.form
 have H := zh h
 have hall := M.ssv_all hv
 have HV := zh hv
 have HS := zh (M.SL.of hv)
 obtain ⟨hx1, hx12, _, hxx⟩ := hall
 have HT := zh (M.tk_bd (fun x hx => (hxx x hx).1))
 have HXX := zh hxx
 have HIN := zh (M.inn_t ht0 ht : M.inn t' 0 1000000 = true)
 have hfl := HS.out.fl
 have HFT := zh HS.out.fl_tk
 obtain ⟨T, hT⟩ : ∃ T, M.fl xs = T := ⟨_, rfl⟩
 rw [hT] at HFT hfl
 have hmod : (t' : Int).tmod (T : Int) = ((t' % T : Nat) : Int) := Int.ofNat_tmod _ _
 have hne : (T : Int) ≠ 0 := by omega
 obtain ⟨r, hr⟩ : ∃ r, t' % T = r := ⟨_, rfl⟩
 have hrT : r < T := by rw [← hr]; exact Nat.mod_lt _ (by omega)
 have HW : Hid (M.who xs t' = (M.frame xs).getD r 0) := zh (by unfold M.who; rw [hT, Int.toNat_natCast, hr])
 rw [hr] at hmod
 replace hT := zh hT
 clear h hv hxx hr
 go_enter Try.func61, Try.ntmps61
 go_wp2_with (first
  | (go_at_call 75; refine (spec_FrameTicks _ xs N _ (H.out.ext HE1.out) HV.out).mono ?_; rintro e w2 ⟨rfl, he⟩; rw [← HFT.out]; have HE2 := zh (HE1.out.tr he); clear he)
  | (go_at_call 34; refine (spec_SlotsValid _ xs N w H.out).mono ?_; rintro e w1 ⟨rfl, he⟩; rw [HV.out]; have HE1 := zh he; clear he)
  | (go_at_call 17; refine (spec_In _ _ _ _).mono ?_; rintro e w' ⟨rfl, rfl⟩; rw [HIN.out]))
 go_loopw [7, 8] (fun u i wr => ∃ k : Nat, k < xs.length ∧ i = .int .i64 k ∧ M.tk xs k ≤ r ∧ u = .int .i64 (r - M.tk xs k) ∧ Ext w wr) (fun _ i _ => xs.length - (intOf i).toNat)
 case atStart => exact ⟨0, by omega, rfl, by rw [M.tk_zero]; omega, by simp [M.tk_zero], HE2.out⟩
 case round =>
  clear HE1 HE2
  obtain ⟨k, hk, rfl, hle, rfl, hq⟩ := hrel
  have HQ := zh hq
  clear hq
  obtain ⟨b, o, x, rfl, hbl, hx, hc0, hc1, hr0, hr1, hvx⟩ := (H.out.ext HQ.out).atSlot k hk
  have hb := HT.out k (by omega)
  have hxt := HXX.out x (List.mem_of_getElem? hx.out)
  have HN := zh (M.tk_next hx.out)
  by_cases hge : x.Ticks ≤ r - M.tk xs k
  ·have hk1 : k + 1 < xs.length := by
    by_cases hlast : k + 1 = xs.length
    ·exfalso
     have h1 := HN.out
     rw [hlast, ← HFT.out] at h1
     omega
    ·omega
   go_wp2
   go_roundw
   case rel => exact ⟨k + 1, hk1, by go_num, by rw [HN.out]; omega, by rw [HN.out]; congr 1; omega, HQ.out⟩
   case measure => simp [intOf]; omega
  ·have hlt : (r : Int) < M.tk xs k + x.Ticks := by omega
   have HF := zh (M.frame_at HS.out.tk hx.out hle hlt)
   have HWX : Hid (M.who xs t' = x.Who) := zh (by rw [HW.out, List.getD_eq_getElem?_getD, HF.out]; rfl)
   go_wp2
   go_ret
   exact ⟨by rw [HWX.out]; first | done | rfl, HQ.out⟩
theorem M.count_step {A : List Int} {r T : Nat} {n x : Int} : ((A ++ List.replicate T x).take r).count n = (A.take r).count n + if x = n then min T (r - A.length) else 0 := by
 rw [List.take_append, List.count_append, List.take_replicate, List.count_replicate]
 by_cases h : x = n
 ·simp [h]; omega
 ·simp [h]
theorem spec_OwnTicks (v : Value) (xs : List Slot) (N n t : Int) (w : World) (h : Rs w v xs) (hv : M.ssv xs N = true) (hn0 : 0 ≤ n) (hn : n < N) (ht0 : 0 ≤ t) (ht : t ≤ 1000000) :
  Calls Try.prog 63 #[v, .int .i64 N, .int .i64 n, .int .i64 t] w fun e w' => e = .returned (.int .i64 (M.own xs n t)) ∧ Ext w w' := by
 obtain ⟨t', rfl⟩ : ∃ t' : Nat, t = t' := ⟨t.toNat, by omega⟩
 obtain ⟨a, c, rfl, hl⟩ := h.form
 have H := zh h
 have hall := M.ssv_all hv
 have HV := zh hv
 have HS := zh (M.SL.of hv)
 obtain ⟨hx1, hx12, hN, hxx⟩ := hall
 have HT := zh (M.tk_bd (fun x hx => (hxx x hx).1))
 have HXX := zh hxx
 have HIN := zh (M.inn_t ht0 ht : M.inn t' 0 1000000 = true)
 have HI2 := zh (M.inn_t hn0 (by omega) : M.inn n 0 (N - 1) = true)
 have hfl := HS.out.fl
 have HFT := zh HS.out.fl_tk
 obtain ⟨T, hT⟩ : ∃ T, M.fl xs = T := ⟨_, rfl⟩
 rw [hT] at HFT hfl
 have hmod : (t' : Int).tmod (T : Int) = ((t' % T : Nat) : Int) := Int.ofNat_tmod _ _
 have hdiv : (t' : Int).tdiv (T : Int) = ((t' / T : Nat) : Int) := Int.ofNat_tdiv _ _
 have hne : (T : Int) ≠ 0 := by omega
 obtain ⟨r, hr⟩ : ∃ r, t' % T = r := ⟨_, rfl⟩
 obtain ⟨d, hd⟩ : ∃ d, t' / T = d := ⟨_, rfl⟩
 have hrT : r < T := by rw [← hr]; exact Nat.mod_lt _ (by omega)
 have hdT : d ≤ t' := by rw [← hd]; exact Nat.div_le_self _ _
 have HW : Hid (M.own xs n t' = (d * (M.frame xs).count n + ((M.frame xs).take r).count n : Nat)) := zh (by unfold M.own; rw [hT, Int.toNat_natCast, hr, hd])
 rw [hr] at hmod
 rw [hd] at hdiv
 replace hT := zh hT
 clear h hv hxx hr hd
 go_enter Try.func63, Try.ntmps63
 go_wp2_with (first
  | (go_at_call 75; refine (spec_FrameTicks _ xs N _ (H.out.ext HE1.out) HV.out).mono ?_; rintro e w2 ⟨rfl, he⟩; rw [← HFT.out]; have HE2 := zh (HE1.out.tr he); clear he)
  | (go_at_call 34; refine (spec_SlotsValid _ xs N w H.out).mono ?_; rintro e w1 ⟨rfl, he⟩; rw [HV.out]; have HE1 := zh he; clear he)
  | (go_at_call 17; refine (spec_In _ _ _ _).mono ?_; rintro e w' ⟨rfl, rfl⟩; first | rw [HIN.out] | rw [HI2.out]))
 go_loopw [10, 11, 12, 13] (fun v10 v11 v12 i wr => ∃ (k A B : Nat), k ≤ xs.length ∧ i = .int .i64 k ∧ v10 = .int .i64 A ∧ A = (M.frame (xs.take k)).count n ∧ v11 = .int .i64 B ∧ B = ((M.frame (xs.take k)).take r).count n ∧ v12 = .int .i64 (M.tk xs k) ∧ Ext w wr) (fun _ _ _ i _ => xs.length - (intOf i).toNat)
 case atStart => exact ⟨0, 0, 0, by omega, rfl, rfl, rfl, rfl, by simp [M.frame], rfl, HE2.out⟩
 case round =>
  clear HE1 HE2
  obtain ⟨k, A, B, hk, rfl, rfl, hA, rfl, hB, rfl, hq⟩ := hrel
  have HQ := zh hq
  have hAl : A ≤ 240 := by rw [hA]; exact Nat.le_trans List.count_le_length (Nat.le_trans (M.frame_le HS.out.tk k) (by omega))
  have hBl : B ≤ r := by rw [hB]; exact Nat.le_trans List.count_le_length (by rw [List.length_take]; omega)
  replace hA := zh hA
  replace hB := zh hB
  clear hq
  have hb := HT.out k (by omega)
  obtain ⟨tk, htk⟩ : ∃ tk : Nat, M.tk xs k = tk := ⟨(M.tk xs k).toNat, by omega⟩
  rw [htk] at hb
  have HTK : Hid ((M.frame (xs.take k)).length = tk) := zh (by
   have hl := M.frame_len (xs := xs.take k) (fun y hy => HS.out.tk y (List.mem_of_mem_take hy))
   have hl2 : M.tk (xs.take k) (xs.take k).length = M.tk xs k := by unfold M.tk; rw [List.take_length]
   rw [hl2] at hl
   omega)
  rw [htk]
  replace htk := zh htk
  by_cases hkt : k < xs.length
  ·obtain ⟨b, o, x, rfl, hbl, hx, hc0, hc1, hr0, hr1, hvx⟩ := (H.out.ext HQ.out).atSlot k hkt
   have hxt := HXX.out x (List.mem_of_getElem? hx.out)
   have HN := zh (M.tk_next hx.out)
   have HFN := zh (M.frame_next hx.out)
   obtain ⟨X, hX⟩ : ∃ X : Nat, x.Ticks = X := ⟨x.Ticks.toNat, by omega⟩
   have hXn : x.Ticks.toNat = X := by omega
   have hX1 : 1 ≤ X := by omega
   have hX2 : X ≤ 20 := by omega
   rw [hX] at hc1
   rw [hXn] at HFN
   have HXT := zh hX
   clear hX hXn hxt hvx hr1
   by_cases hxn : x.Who = n
   ·have hxe : (x.Who == n) = true := by simp [hxn]
    have hxn2 := zh hxn
    clear hxn
    obtain ⟨mn, hmn, hmn2⟩ : ∃ mn : Int, (if (r : Int) - tk < X then (r : Int) - tk else (X : Int)) = mn ∧ (((min X (r - tk) : Nat) : Int) = if 0 < mn then mn else 0) ∧ -240 ≤ mn ∧ mn ≤ 240 := ⟨_, rfl, by split <;> split <;> omega, by split <;> omega⟩
    obtain ⟨hmx, hmb⟩ := hmn2
    replace hmx := hmx.symm
    obtain ⟨m, hm⟩ : ∃ m : Nat, min X (r - tk) = m := ⟨_, rfl⟩
    rw [hm] at hmx
    have hm20 : m ≤ 20 := by omega
    have HC := zh (@M.count_step (M.frame (xs.take k)) r X n x.Who)
    rw [if_pos hxn2.out, HTK.out, hm] at HC
    clear hm
    go_upto_region 12 with (fail)
    go_big_quiet (fail)
    go_wp2
    go_roundw
    case rel => exact ⟨k + 1, A + X, B + m, by omega, by go_num, by simp, by rw [HFN.out, List.count_append, ← hA.out, List.count_replicate, hxe]; simp, by simp, by rw [HFN.out, HC.out, ← hB.out], by rw [HN.out, htk.out, HXT.out], HQ.out.drewN _⟩
    case measure => simp [intOf]; omega
   ·have hxe : (x.Who == n) = false := by simpa using hxn
    have HC := zh (@M.count_step (M.frame (xs.take k)) r X n x.Who)
    rw [if_neg hxn] at HC
    have hxe2 := zh hxe
    clear hxn
    go_wp2
    go_roundw
    case rel => exact ⟨k + 1, A, B, by omega, by go_num, rfl, by rw [HFN.out, List.count_append, ← hA.out, List.count_replicate, hxe2.out]; simp, rfl, by rw [HFN.out, HC.out, ← hB.out]; simp, by rw [HN.out, htk.out, HXT.out], HQ.out⟩
    case measure => simp [intOf]; omega
  ·obtain rfl : k = xs.length := by omega
   rw [List.take_length] at hA hB
   have hmul : (d : Int) * (A : Int) = ((d * A : Nat) : Int) := by simp
   have hmb : d * A ≤ 1000000 * 240 := Nat.mul_le_mul (by omega) (by omega)
   obtain ⟨m, hm2⟩ : ∃ m, d * A = m := ⟨_, rfl⟩
   have HWX : Hid (M.own xs n t' = (m : Int) + B) := zh (by rw [HW.out, ← hA.out, ← hB.out, hm2]; simp)
   rw [hm2] at hmul hmb
   clear hm2
   go_wp2
   go_ret
   exact ⟨by rw [HWX.out]; first | done | rfl, HQ.out⟩
end Sk
