/- Contracts of functions of the given program, each under the condition that it states. -/
import Derived.Test.YtfokgfocnacocaaGreatChecked
import Derived.Deep.CutBlock
import Derived.Deep.CutRange
import Derived.Lib.AppendZeros
import Derived.Test.YtfokgfocnacocaaGreatFrame
import Derived.Test.YtfokgfocnacocaaGreatCopy
namespace Sk
open Go Go.Proofs Go.RowKit
set_option maxHeartbeats 1500000
set_option maxRecDepth 100000
set_option linter.unusedVariables false
set_option linter.unusedSimpArgs false
theorem impl_WhoRuns (v : Value) (xs : List Slot) (N t : Int) (w : World) (h : Rs w v xs) (hv : M.ssv xs N = true) (ht0 : 0 ≤ t) (ht : t ≤ 1000000) :
  Calls Tryz.prog 10 #[v, .int .i64 N, .int .i64 t] w fun e w' => e = .returned (.int .i64 (M.who xs t)) ∧ Ext w w' := by
 have H := zh h
 obtain ⟨a, c, rfl, hl⟩ := h.form
 have HV := zh hv
 have HS := zh (M.SL.of hv)
 have HI := zh (M.inn_t ht0 ht : M.inn t 0 1000000 = true)
 clear h hv
 go_enter Tryz.func10, Tryz.ntmps10
 go_wp2_with (first
  | (go_at_call 33; refine (impl_SlotsValid _ xs N w H.out).mono ?_; rintro e w1 ⟨rfl, he⟩; rw [HV.out]; have HE1 := zh he; clear he)
  | (go_at_call 34; refine (impl_in _ _ _ _).mono ?_; rintro e w' ⟨rfl, rfl⟩; rw [HI.out])
  | (go_at_call 35; refine (impl_who _ xs t _ (H.out.ext HE1.out) HS.out ht0 ht).mono ?_; rintro e w2 ⟨rfl, he⟩; have HE2 := zh (HE1.out.tr he); clear he))
 go_ret
 exact ⟨rfl, HE2.out⟩
theorem M.frame_at {xs : List Slot} (h : ∀ x ∈ xs, 1 ≤ x.Ticks ∧ x.Ticks ≤ 20) {k r : Nat} {x : Slot} (hx : xs[k]? = some x) (h1 : M.tk xs k ≤ r) (h2 : (r : Int) < M.tk xs k + x.Ticks) : (M.frame xs)[r]? = some x.Who := by
 have hk := lt_of_some hx
 have hsp : M.frame xs = M.frame (xs.take k) ++ (List.replicate x.Ticks.toNat x.Who ++ M.frame (xs.drop (k + 1))) := by
  have e : xs = xs.take k ++ x :: xs.drop (k + 1) := by
   obtain ⟨hl, rfl⟩ := List.getElem?_eq_some_iff.1 hx
   rw [List.getElem_cons_drop, List.take_append_drop]
  conv => lhs; rw [e]
  unfold M.frame
  simp
 have hl := M.frame_len (xs := xs.take k) (fun y hy => h y (List.mem_of_mem_take hy))
 have hl2 : M.tk (xs.take k) (xs.take k).length = M.tk xs k := by unfold M.tk; rw [List.take_length]
 rw [hl2] at hl
 have hxt := h x (List.mem_of_getElem? hx)
 rw [hsp, List.getElem?_append_right (by omega), List.getElem?_append_left (by rw [List.length_replicate]; omega), List.getElem?_replicate, if_pos (by omega)]
theorem spec_WhoRunsG (v : Value) (xs : List Slot) (N t : Int) (w : World) (h : Rs w v xs) (hv : M.ssv xs N = true) (ht0 : 0 ≤ t) (ht : t ≤ 1000000) :
  Calls Tryz.prog 27 #[v, .int .i64 N, .int .i64 t] w fun e w' => e = .returned (.int .i64 (M.who xs t)) ∧ Ext w w' := by
 obtain ⟨t', rfl⟩ : ∃ t' : Nat, t = t' := ⟨t.toNat, by omega⟩
 obtain ⟨a, c, rfl, hl⟩ := h.form
 have H := zh h
 have hall := M.ssv_all hv
 have HV := zh hv
 have HS := zh (M.SL.of hv)
 obtain ⟨hx1, hx12, _, hxx⟩ := hall
 have HT := zh (M.tk_bd (fun x hx => (hxx x hx).1))
 have HXX := zh hxx
 have HIN := zh (M.inn_t ht0 ht : M.inn t' 0 1000000 = true)
 have hfl := HS.out.fl
 have HFT := zh HS.out.fl_tk
 obtain ⟨T, hT⟩ : ∃ T, M.fl xs = T := ⟨_, rfl⟩
 rw [hT] at HFT hfl
 have hmod : (t' : Int).tmod (T : Int) = ((t' % T : Nat) : Int) := Int.ofNat_tmod _ _
 have hne : (T : Int) ≠ 0 := by omega
 obtain ⟨r, hr⟩ : ∃ r, t' % T = r := ⟨_, rfl⟩
 have hrT : r < T := by rw [← hr]; exact Nat.mod_lt _ (by omega)
 have HW : Hid (M.who xs t' = (M.frame xs).getD r 0) := zh (by unfold M.who; rw [hT, Int.toNat_natCast, hr])
 rw [hr] at hmod
 replace hT := zh hT
 clear h hv hxx hr
 go_enter Tryz.func27, Tryz.ntmps27
 go_wp2_with (first
  | (go_at_call 66; refine (spec_FrameTicks _ xs N _ (H.out.ext HE1.out) HV.out).mono ?_; rintro e w2 ⟨rfl, he⟩; rw [← HFT.out]; have HE2 := zh (HE1.out.tr he); clear he)
  | (go_at_call 65; refine (spec_SlotsValid _ xs N w H.out).mono ?_; rintro e w1 ⟨rfl, he⟩; rw [HV.out]; have HE1 := zh he; clear he)
  | (go_at_call 43; refine (spec_In _ _ _ _).mono ?_; rintro e w' ⟨rfl, rfl⟩; rw [HIN.out]))
 go_loopw [7, 8] (fun u i wr => ∃ k : Nat, k < xs.length ∧ i = .int .i64 k ∧ M.tk xs k ≤ r ∧ u = .int .i64 (r - M.tk xs k) ∧ Ext w wr) (fun _ i _ => xs.length - (intOf i).toNat)
 case atStart => exact ⟨0, by omega, rfl, by rw [M.tk_zero]; omega, by simp [M.tk_zero], HE2.out⟩
 case round =>
  clear HE1 HE2
  obtain ⟨k, hk, rfl, hle, rfl, hq⟩ := hrel
  have HQ := zh hq
  clear hq
  obtain ⟨b, o, x, rfl, hbl, hx, hc0, hc1, hr0, hr1, hvx⟩ := (H.out.ext HQ.out).atSlot k hk
  have hb := HT.out k (by omega)
  have hxt := HXX.out x (List.mem_of_getElem? hx.out)
  have HN := zh (M.tk_next hx.out)
  by_cases hge : x.Ticks ≤ r - M.tk xs k
  ·have hk1 : k + 1 < xs.length := by
    by_cases hlast : k + 1 = xs.length
    ·exfalso
     have h1 := HN.out
     rw [hlast, ← HFT.out] at h1
     omega
    ·omega
   go_wp2
   go_roundw
   case rel => exact ⟨k + 1, hk1, by go_num, by rw [HN.out]; omega, by rw [HN.out]; congr 1; omega, HQ.out⟩
   case measure => simp [intOf]; omega
  ·have hlt : (r : Int) < M.tk xs k + x.Ticks := by omega
   have HF := zh (M.frame_at HS.out.tk hx.out hle hlt)
   have HWX : Hid (M.who xs t' = x.Who) := zh (by rw [HW.out, List.getD_eq_getElem?_getD, HF.out]; rfl)
   go_wp2
   go_ret
   exact ⟨by rw [HWX.out]; first | done | rfl, HQ.out⟩
theorem M.count_step {A : List Int} {r T : Nat} {n x : Int} : ((A ++ List.replicate T x).take r).count n = (A.take r).count n + if x = n then min T (r - A.length) else 0 := by
 rw [List.take_append, List.count_append, List.take_replicate, List.count_replicate]
 by_cases h : x = n
 ·simp [h]; omega
 ·simp [h]
theorem spec_OwnTicks (v : Value) (xs : List Slot) (N n t : Int) (w : World) (h : Rs w v xs) (hv : M.ssv xs N = true) (hn0 : 0 ≤ n) (hn : n < N) (ht0 : 0 ≤ t) (ht : t ≤ 1000000) :
  Calls Tryz.prog 29 #[v, .int .i64 N, .int .i64 n, .int .i64 t] w fun e w' => e = .returned (.int .i64 (M.own xs n t)) ∧ Ext w w' := by
 obtain ⟨t', rfl⟩ : ∃ t' : Nat, t = t' := ⟨t.toNat, by omega⟩
 obtain ⟨a, c, rfl, hl⟩ := h.form
 have H := zh h
 have hall := M.ssv_all hv
 have HV := zh hv
 have HS := zh (M.SL.of hv)
 obtain ⟨hx1, hx12, hN, hxx⟩ := hall
 have HT := zh (M.tk_bd (fun x hx => (hxx x hx).1))
 have HXX := zh hxx
 have HIN := zh (M.inn_t ht0 ht : M.inn t' 0 1000000 = true)
 have HI2 := zh (M.inn_t hn0 (by omega) : M.inn n 0 (N - 1) = true)
 have hfl := HS.out.fl
 have HFT := zh HS.out.fl_tk
 obtain ⟨T, hT⟩ : ∃ T, M.fl xs = T := ⟨_, rfl⟩
 rw [hT] at HFT hfl
 have hmod : (t' : Int).tmod (T : Int) = ((t' % T : Nat) : Int) := Int.ofNat_tmod _ _
 have hdiv : (t' : Int).tdiv (T : Int) = ((t' / T : Nat) : Int) := Int.ofNat_tdiv _ _
 have hne : (T : Int) ≠ 0 := by omega
 obtain ⟨r, hr⟩ : ∃ r, t' % T = r := ⟨_, rfl⟩
 obtain ⟨d, hd⟩ : ∃ d, t' / T = d := ⟨_, rfl⟩
 have hrT : r < T := by rw [← hr]; exact Nat.mod_lt _ (by omega)
 have hdT : d ≤ t' := by rw [← hd]; exact Nat.div_le_self _ _
 have HW : Hid (M.own xs n t' = (d * (M.frame xs).count n + ((M.frame xs).take r).count n : Nat)) := zh (by unfold M.own; rw [hT, Int.toNat_natCast, hr, hd])
 rw [hr] at hmod
 rw [hd] at hdiv
 replace hT := zh hT
 clear h hv hxx hr hd
 go_enter Tryz.func29, Tryz.ntmps29
 go_wp2_with (first
  | (go_at_call 66; refine (spec_FrameTicks _ xs N _ (H.out.ext HE1.out) HV.out).mono ?_; rintro e w2 ⟨rfl, he⟩; rw [← HFT.out]; have HE2 := zh (HE1.out.tr he); clear he)
  | (go_at_call 65; refine (spec_SlotsValid _ xs N w H.out).mono ?_; rintro e w1 ⟨rfl, he⟩; rw [HV.out]; have HE1 := zh he; clear he)
  | (go_at_call 43; refine (spec_In _ _ _ _).mono ?_; rintro e w' ⟨rfl, rfl⟩; first | rw [HIN.out] | rw [HI2.out]))
 go_loopw [10, 11, 12, 13] (fun v10 v11 v12 i wr => ∃ (k A B : Nat), k ≤ xs.length ∧ i = .int .i64 k ∧ v10 = .int .i64 A ∧ A = (M.frame (xs.take k)).count n ∧ v11 = .int .i64 B ∧ B = ((M.frame (xs.take k)).take r).count n ∧ v12 = .int .i64 (M.tk xs k) ∧ Ext w wr) (fun _ _ _ i _ => xs.length - (intOf i).toNat)
 case atStart => exact ⟨0, 0, 0, by omega, rfl, rfl, rfl, rfl, by simp [M.frame], rfl, HE2.out⟩
 case round =>
  clear HE1 HE2
  obtain ⟨k, A, B, hk, rfl, rfl, hA, rfl, hB, rfl, hq⟩ := hrel
  have HQ := zh hq
  have hAl : A ≤ 240 := by rw [hA]; exact Nat.le_trans List.count_le_length (Nat.le_trans (M.frame_le HS.out.tk k) (by omega))
  have hBl : B ≤ r := by rw [hB]; exact Nat.le_trans List.count_le_length (by rw [List.length_take]; omega)
  replace hA := zh hA
  replace hB := zh hB
  clear hq
  have hb := HT.out k (by omega)
  obtain ⟨tk, htk⟩ : ∃ tk : Nat, M.tk xs k = tk := ⟨(M.tk xs k).toNat, by omega⟩
  rw [htk] at hb
  have HTK : Hid ((M.frame (xs.take k)).length = tk) := zh (by
   have hl := M.frame_len (xs := xs.take k) (fun y hy => HS.out.tk y (List.mem_of_mem_take hy))
   have hl2 : M.tk (xs.take k) (xs.take k).length = M.tk xs k := by unfold M.tk; rw [List.take_length]
   rw [hl2] at hl
   omega)
  rw [htk]
  replace htk := zh htk
  by_cases hkt : k < xs.length
  ·obtain ⟨b, o, x, rfl, hbl, hx, hc0, hc1, hr0, hr1, hvx⟩ := (H.out.ext HQ.out).atSlot k hkt
   have hxt := HXX.out x (List.mem_of_getElem? hx.out)
   have HN := zh (M.tk_next hx.out)
   have HFN := zh (M.frame_next hx.out)
   obtain ⟨X, hX⟩ : ∃ X : Nat, x.Ticks = X := ⟨x.Ticks.toNat, by omega⟩
   have hXn : x.Ticks.toNat = X := by omega
   have hX1 : 1 ≤ X := by omega
   have hX2 : X ≤ 20 := by omega
   rw [hX] at hc1
   rw [hXn] at HFN
   have HXT := zh hX
   clear hX hXn hxt hvx hr1
   by_cases hxn : x.Who = n
   ·have hxe : (x.Who == n) = true := by simp [hxn]
    have hxn2 := zh hxn
    clear hxn
    obtain ⟨mn, hmn, hmn2⟩ : ∃ mn : Int, (if (r : Int) - tk < X then (r : Int) - tk else (X : Int)) = mn ∧ (((min X (r - tk) : Nat) : Int) = if 0 < mn then mn else 0) ∧ -240 ≤ mn ∧ mn ≤ 240 := ⟨_, rfl, by split <;> split <;> omega, by split <;> omega⟩
    obtain ⟨hmx, hmb⟩ := hmn2
    replace hmx := hmx.symm
    obtain ⟨m, hm⟩ : ∃ m : Nat, min X (r - tk) = m := ⟨_, rfl⟩
    rw [hm] at hmx
    have hm20 : m ≤ 20 := by omega
    have HC := zh (@M.count_step (M.frame (xs.take k)) r X n x.Who)
    rw [if_pos hxn2.out, HTK.out, hm] at HC
    clear hm
    go_upto_region 12 with (fail)
    go_big_quiet (fail)
    go_wp2
    go_roundw
    case rel => exact ⟨k + 1, A + X, B + m, by omega, by go_num, by simp, by rw [HFN.out, List.count_append, ← hA.out, List.count_replicate, hxe]; simp, by simp, by rw [HFN.out, HC.out, ← hB.out], by rw [HN.out, htk.out, HXT.out], HQ.out.drewN _⟩
    case measure => simp [intOf]; omega
   ·have hxe : (x.Who == n) = false := by simpa using hxn
    have HC := zh (@M.count_step (M.frame (xs.take k)) r X n x.Who)
    rw [if_neg hxn] at HC
    have hxe2 := zh hxe
    clear hxn
    go_wp2
    go_roundw
    case rel => exact ⟨k + 1, A, B, by omega, by go_num, rfl, by rw [HFN.out, List.count_append, ← hA.out, List.count_replicate, hxe2.out]; simp, rfl, by rw [HFN.out, HC.out, ← hB.out]; simp, by rw [HN.out, htk.out, HXT.out], HQ.out⟩
    case measure => simp [intOf]; omega
  ·obtain rfl : k = xs.length := by omega
   rw [List.take_length] at hA hB
   have hmul : (d : Int) * (A : Int) = ((d * A : Nat) : Int) := by simp
   have hmb : d * A ≤ 1000000 * 240 := Nat.mul_le_mul (by omega) (by omega)
   obtain ⟨m, hm2⟩ : ∃ m, d * A = m := ⟨_, rfl⟩
   have HWX : Hid (M.own xs n t' = (m : Int) + B) := zh (by rw [HW.out, ← hA.out, ← hB.out, hm2]; simp)
   rw [hm2] at hmul hmb
   clear hm2
   go_wp2
   go_ret
   exact ⟨by rw [HWX.out]; first | done | rfl, HQ.out⟩
theorem zeroCells_size (z : Array Value) (n : Nat) : (Builtin.zeroCells z n).size = n * z.size := by
 have key : ∀ n, (Builtin.zeroCells z n).size = n * z.size := by
  intro n
  unfold Builtin.zeroCells
  simp
 exact key n
theorem slices_Grow0 (n : Nat) (hn : n ≤ 1000000) (w : World) :
  Calls Tryz.prog 130 #[.slice none 0 0, .int .i64 n] w fun e w' => ∃ v', e = .returned v' ∧ Oa (α := Int) 3 w.heap.size w' v' [] [] ∧ Ext w w' := by
 by_cases h0 : n = 0
 ·subst h0
  go_enter Tryz.func130, Tryz.ntmps130
  go_wp2
  go_ret
  exact ⟨_, rfl, Oa.nil _ _ _, Ext.refl _⟩
 ·obtain ⟨i1, hi1, hq0, hq1, hq2⟩ := info_parts info_int
  have hrun : (Builtin.append_ #[39, 3] 39 #[.slice none 0 0, .int .i64 (n : Int)]).run Tryz.prog w = .ok (.slice (some ⟨w.heap.size, 0, none⟩) n (grownCap w n 0 3)) (w.drew.alloc (.cells (Builtin.zeroCells #[.int .i64 0] n ++ Builtin.zeroCells #[.int .i64 0] (grownCap w n 0 3 - n)) 3)) := by
   have h := Go.Lib.run_append_nil_zeros (P := Tryz.prog) w 39 3 39 3 i1 (.int .i64 0) .i64 .i64 Tryz.underlying39 (by kernel_rfl) hi1 hq0 n (by omega) (by rw [hq1]; decide) (by omega) (by rw [hq2]; omega)
   simpa [Value.cells] using h
  have hge := grownCap_ge w n 0 3
  have hcm : grownCap w n 0 3 ≤ maxLen := grownCap_le_maxLen w n 0 3 (by unfold maxLen; omega)
  have hcsz : (Builtin.zeroCells #[Value.int .i64 0] n ++ Builtin.zeroCells #[Value.int .i64 0] (grownCap w n 0 3 - n)).size = grownCap w n 0 3 := by
   rw [Array.size_append, zeroCells_size, zeroCells_size]; simp; omega
  obtain ⟨cap, hcap⟩ : ∃ cap, grownCap w n 0 3 = cap := ⟨_, rfl⟩
  rw [hcap] at hrun hge hcm hcsz
  generalize Builtin.zeroCells #[Value.int .i64 0] n ++ Builtin.zeroCells #[Value.int .i64 0] (cap - n) = C at hrun hcsz
  have HC := zh hcsz
  have hcap1 : 1 ≤ cap := by omega
  have hcm2 : cap ≤ 9223372036854775807 := by unfold maxLen at hcm; exact hcm
  clear hcsz hcap
  replace hrun := zh hrun
  go_enter Tryz.func130, Tryz.ntmps130
  go_wp2_with (at_builtin; refine Go.Lib.wpList_append_run _ rfl (.tmp 20) (.tmp 21) 39 3 rfl _ _ rfl rfl _ _ hrun.out ?_)
  go_ret
  refine ⟨_, rfl, .inr ⟨w.heap.size, cap, C, rfl, Nat.le_refl _, by show (w.drew.heap.push (.cells C 3))[w.drew.heap.size]? = _; rw [Array.getElem?_push_size], Nat.zero_le _, hcm, by rw [HC.out]; simp [GT.sz], rfl, by simp⟩, ((Ext.refl w).drew).alloc _⟩
theorem slices_Concat (v : Value) (xss : List (List Int)) (w : World) (h : Rs w v xss) (hn : xss.length ≤ 1000) (hl : ∀ xs ∈ xss, xs.length ≤ 1000) :
  Calls Tryz.prog 107 #[v] w fun e w' => ∃ a c, e = .returned (.slice a xss.flatten.length c) ∧ Os w.heap.size w' (.slice a xss.flatten.length c) xss.flatten ∧ xss.flatten.length ≤ c ∧ c ≤ 9223372036854775807 ∧ Ext w w' := by
 have H := zh h
 have HL := zh hl
 obtain ⟨a, c, rfl, hln⟩ := h.form
 clear h hl
 have hfl : ∀ k, k ≤ xss.length → (xss.take k).flatten.length ≤ 1000 * k := by
  intro k
  induction k with
  | zero => intro _; simp
  | succ k ih =>
   intro hk
   have hx : xss[k]? = some xss[k] := List.getElem?_eq_getElem (by omega)
   rw [take_snoc hx, List.flatten_append, List.length_append]
   have := HL.out xss[k] (List.getElem_mem _)
   have := ih (by omega)
   simp only [List.flatten_cons, List.flatten_nil, List.append_nil]
   omega
 have HFL := zh hfl
 clear hfl
 go_enter Tryz.func107, Tryz.ntmps107
 go_wp2
 go_loopw [3, 5, 11] (fun v3 _ i wr => ∃ k : Nat, k ≤ xss.length ∧ i = .int .i64 k ∧ v3 = .int .i64 ((xss.take k).flatten.length : Nat) ∧ wr = w) (fun _ _ i _ => xss.length - (intOf i).toNat)
 case atStart => exact ⟨0, Nat.zero_le _, rfl, rfl, rfl⟩
 case round =>
  obtain ⟨k, hk, rfl, rfl, hww⟩ := hrel
  obtain rfl : w = wr := hww.symm
  have hb := HFL.out k hk
  obtain ⟨A, hA⟩ : ∃ A, (xss.take k).flatten.length = A := ⟨_, rfl⟩
  rw [hA] at hb ⊢
  replace hA := zh hA
  by_cases hlt : k < xss.length
  ·obtain ⟨b, o, xs, ax, cx, rfl, hbl, hx, hc, hrx, hlx⟩ := H.out.atList k hlt
   have hxl := HL.out xs (List.mem_of_getElem? hx.out)
   have HN := zh (take_snoc hx.out)
   go_wp2
   go_roundw
   case rel => exact ⟨k + 1, by omega, by go_num, by rw [HN.out, List.flatten_append, List.length_append, hA.out]; simp, by trivial⟩
   case measure => simp [intOf]; omega
  ·obtain rfl : k = xss.length := by omega
   have hA2 : Hid (xss.flatten.length = A) := zh (by have := hA.out; rwa [List.take_length] at this)
   go_upto_region 10 with (go_at_call 130; refine (slices_Grow0 A (by omega) _).mono ?_; rintro e w1 ⟨v1, rfl, ho, he⟩; have HO := zh ho; have HE := zh he; obtain ⟨p1, n1, q1, rfl⟩ := Oa.sh0 ho; clear ho he)
   go_wp2_with fail
   go_loopw [6, 8, 27] (fun v6 _ i wr => ∃ (j : Nat) (ao : Option Addr) (no co : Nat), j ≤ xss.length ∧ i = .int .i64 j ∧ v6 = .slice ao no co ∧ Oa (α := Int) 3 w.heap.size wr (.slice ao no co) (xss.take j).flatten [] ∧ Ext w wr) (fun _ _ i _ => xss.length - (intOf i).toNat)
   case atStart => exact ⟨0, _, _, _, Nat.zero_le _, rfl, rfl, HO.out, HE.out⟩
   case round =>
    clear HO HE
    obtain ⟨j, ao, no, co, hj, rfl, rfl, ho, hq⟩ := hrel
    have HO := zh ho
    have HQ := zh hq
    have hsz := hq.sz
    clear ho hq
    by_cases hjt : j < xss.length
    ·obtain ⟨b, o, xs, ax, cx, rfl, hbl, hx, hc, hrx, hlx⟩ := H.out.atList j hjt
     have hxl := HL.out xs (List.mem_of_getElem? hx.out)
     have HN := zh (take_snoc hx.out)
     have hb2 := HFL.out j (by omega)
     have e1 := (cell_ext HQ.out hbl).trans hc
     clear hc
     go_wp2_with (at_builtin; refine wpl_appF (α := Int) rfl _ _ 39 rfl 3 Tryz.underlying39 elInt (L := w.heap.size) (v := .slice ao no co) (xs := (xss.take j).flatten) (ys := xs) rfl HO.out rfl (hrx.out.ext HQ.out) (by omega) hsz ?_; intro v5 w5 hO5 hg5; have HO5 := zh hO5; have HE5 := zh (HQ.out.grown hg5 (fun k hk => HO.out.own k hk)); obtain ⟨p5, n5, q5, rfl⟩ := Oa.sh0 hO5; clear hO5 hg5)
     go_roundw
     case rel => exact ⟨j + 1, _, _, _, by omega, by go_num, rfl, by rw [HN.out, List.flatten_append]; simpa using HO5.out, HE5.out⟩
     case measure => simp [intOf]; omega
    ·obtain rfl : j = xss.length := by omega
     rw [List.take_length] at HO
     obtain ⟨_, _, hno, _⟩ := HO.out.form
     cases hno
     have hcap := HO.out.cap
     go_wp2
     go_ret
     exact ⟨_, _, rfl, HO.out.os (Own.nil _ _), hcap.1, hcap.2, HQ.out⟩
end Sk
