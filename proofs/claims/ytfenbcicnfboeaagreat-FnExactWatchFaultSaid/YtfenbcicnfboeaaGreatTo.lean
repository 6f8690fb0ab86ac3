/- Contracts of functions of the given program, and lemmas for them: each theorem states the condition under which it holds. -/
import Derived.Test.YtfenbcicnfboeaaGreatChecked
import Derived.Test.YtfenbcicnfboeaaGreatNums
namespace Sk
open Go Go.Proofs Go.RowKit
set_option maxHeartbeats 400000
set_option maxRecDepth 100000
set_option linter.unusedVariables false
set_option linter.unusedSimpArgs false
theorem toWindow (v : Value) (x : Window) (w : World) (h : Rv w v x) :
   Calls Tryz.prog 172 #[v] w fun e w' => ∃ v', e = .returned v' ∧ Ov w.heap.size w' v' x ∧ Ext w w' := by
  obtain ⟨rfl, r0, r1⟩ := h.openWindow
  clear h
  go_enter Tryz.func172, Tryz.ntmps172
  go_wp2
  refine bodyPost_ret (v := .agg #[.int .i64 x.Base, .int .i64 x.Size, .bool x.Write]) (by simp [results, Tryz.results172, go_sem]) rfl ⟨_, rfl, ⟨_, [], rfl, ⟨rfl, r0, r1, rfl⟩, Own.nil _ _⟩, ?_⟩
  repeat (first | exact Ext.refl _ | refine Ext.alloc ?_ _)
theorem toChannel (v : Value) (x : Channel) (w : World) (h : Rv w v x) :
   Calls Tryz.prog 124 #[v] w fun e w' => ∃ v', e = .returned v' ∧ Ov w.heap.size w' v' x ∧ Ext w w' := by
  obtain ⟨rfl, r0, r1, r2, r3⟩ := h.openChannel
  clear h
  go_enter Tryz.func124, Tryz.ntmps124
  go_wp2
  refine bodyPost_ret (v := .agg #[.int .i64 x.Kind, .int .i64 x.From, .int .i64 x.To, .int .i64 x.Size]) (by simp [results, Tryz.results124, go_sem]) rfl ⟨_, rfl, ⟨_, [], rfl, ⟨rfl, r0, r1, r2, r3, rfl⟩, Own.nil _ _⟩, ?_⟩
  repeat (first | exact Ext.refl _ | refine Ext.alloc ?_ _)
theorem toSlot (v : Value) (x : Slot) (w : World) (h : Rv w v x) :
   Calls Tryz.prog 125 #[v] w fun e w' => ∃ v', e = .returned v' ∧ Ov w.heap.size w' v' x ∧ Ext w w' := by
  obtain ⟨rfl, r0, r1⟩ := h.openSlot
  clear h
  go_enter Tryz.func125, Tryz.ntmps125
  go_wp2
  refine bodyPost_ret (v := .agg #[.int .i64 x.Who, .int .i64 x.Ticks]) (by simp [results, Tryz.results125, go_sem]) rfl ⟨_, rfl, ⟨_, [], rfl, ⟨rfl, r0, r1, rfl⟩, Own.nil _ _⟩, ?_⟩
  repeat (first | exact Ext.refl _ | refine Ext.alloc ?_ _)
theorem toOrder (v : Value) (x : Order) (w : World) (h : Rv w v x) :
   Calls Tryz.prog 126 #[v] w fun e w' => ∃ v', e = .returned v' ∧ Ov w.heap.size w' v' x ∧ Ext w w' := by
  obtain ⟨rfl, r0, r1, r2⟩ := h.openOrder
  clear h
  go_enter Tryz.func126, Tryz.ntmps126
  go_wp2
  refine bodyPost_ret (v := .agg #[.int .i64 x.Op, .int .i64 x.A, .int .i64 x.B]) (by simp [results, Tryz.results126, go_sem]) rfl ⟨_, rfl, ⟨_, [], rfl, ⟨rfl, r0, r1, r2, rfl⟩, Own.nil _ _⟩, ?_⟩
  repeat (first | exact Ext.refl _ | refine Ext.alloc ?_ _)
theorem toHealth (v : Value) (x : Health) (w : World) (h : Rv w v x) :
   Calls Tryz.prog 48 #[v] w fun e w' => ∃ v', e = .returned v' ∧ Ov w.heap.size w' v' x ∧ Ext w w' := by
  obtain ⟨rfl, r1⟩ := h.openHealth
  clear h
  go_enter Tryz.func48, Tryz.ntmps48
  go_wp2
  refine bodyPost_ret (v := .agg #[.bool x.Frozen, .int .i64 x.Restarts]) (by simp [results, Tryz.results48, go_sem]) rfl ⟨_, rfl, ⟨_, [], rfl, ⟨rfl, r1, rfl⟩, Own.nil _ _⟩, ?_⟩
  repeat (first | exact Ext.refl _ | refine Ext.alloc ?_ _)
theorem info_Int : (Tryz.prog.info? 3).map (fun i => (i.zero, i.size, i.bytes)) = some (some (.int .i64 0), 1, 8) := by kernel_rfl
theorem toIntS (v : Value) (xs : List Int) (w : World) (h : Rs w v xs) (hn : GT.tot xs ≤ 1048576) :
   Calls Tryz.prog 7 #[v] w fun e w' => ∃ v', e = .returned v' ∧ Os w.heap.size w' v' xs ∧ Ext w w' := by
  obtain ⟨a, c, rfl, hl⟩ := h.form
  obtain ⟨i0, hi, hz0, hz1, hz2⟩ := info_parts info_Int
  have hln : xs.length ≤ 1048576 := Nat.le_trans tot_len hn
  have hmk : ∀ u : World, (Instr.makeSlice 35 (.int .i64 xs.length) (.int .i64 xs.length)).run Tryz.prog u =
      .ok (.slice (some ⟨u.heap.size, 0, none⟩) xs.length xs.length) (u.alloc (.cells (madeCells #[.int .i64 0] (xs.length * 1)) 3)) := fun u => by
    have h := run_make (P := Tryz.prog) u 35 3 i0 (.int .i64 0) Tryz.underlying35 hi hz0 .i64 .i64 xs.length xs.length (by omega) (Int.le_refl _) (by rw [hz2]; omega) (by omega)
    simpa [hz1, Value.cells] using h
  have H := Lib.hid h
  have HN := Lib.hid hn
  clear h hn hi hz0 hz1 hz2
  go_enter Tryz.func7, Tryz.ntmps7
  go_wp2
  go_loopw [4] (fun i wr => ∃ k : Nat, k ≤ xs.length ∧ i = .int .i64 k ∧ Os w.heap.size wr (.slice (some ⟨w.heap.size, 0, none⟩) xs.length xs.length) (xs.take k ++ List.replicate (xs.length - k) 0) ∧ Ext w wr) (fun i _ => xs.length - (intOf i).toNat)
  case atStart => exact ⟨0, Nat.zero_le _, rfl, by have := Os.made (α := Int) w xs.length 3 #[.int .i64 0] 0 rfl rfl hl; simpa [GT.sz] using this, (Ext.refl w).alloc _⟩
  case round =>
    obtain ⟨k, hk, rfl, hb, he⟩ := hrel
    have HB := Lib.hid hb
    have HE := Lib.hid he
    clear hb he
    by_cases hlt : k < xs.length
    · obtain ⟨b, o, x, rfl, _, hx, hc0, g0⟩ := (H.out.ext HE.out).atInt k hlt
      clear H
      obtain ⟨b2, o2, cs2, F2, x0, hb2, _, hL, ⟨rfl, _, _⟩, hat, hf2⟩ := HB.out.at k (by simp; omega)
      cases hb2
      have hd0 := hat 0 _ rfl
      simp only [GT.sz, Nat.mul_one, Nat.add_zero, Nat.zero_add] at hd0
      have HB2 := Lib.hid (HB.out.put (i := k) (Ext.refl _) (by simp; omega) HE.out.sz (⟨[], ⟨rfl, g0, rfl⟩, Own.nil _ _⟩ : Ow wr.heap.size _ _ x))
      have HE2 := Lib.hid HE.out
      clear HB HE hat
      go_wp2
      go_roundw
      case rel =>
        refine ⟨k + 1, by omega, by go_num, ?_, (HE2.out.set (Nat.le_refl _) _)⟩
        have := HB2.out
        rw [set_fill _ _ _ _ _ hlt (by simp; omega), ← take_snoc hx.out] at this
        simpa [putCells, GT.sz] using this
      case measure => simp [intOf]; omega
    · obtain rfl : k = xs.length := by omega
      go_wp2
      go_ret
      exact ⟨_, rfl, by simpa using HB.out, HE.out⟩
theorem info_Window : (Tryz.prog.info? 182).map (fun i => (i.zero, i.size, i.bytes)) = some (some (.agg #[.int .i64 0, .int .i64 0, .bool false]), 3, 24) := by kernel_rfl
theorem toWindowS (v : Value) (xs : List Window) (w : World) (h : Rs w v xs) (hn : GT.tot xs ≤ 1048576) :
   Calls Tryz.prog 155 #[v] w fun e w' => ∃ v', e = .returned v' ∧ Os w.heap.size w' v' xs ∧ Ext w w' := by
  obtain ⟨a, c, rfl, hl⟩ := h.form
  obtain ⟨i0, hi, hz0, hz1, hz2⟩ := info_parts info_Window
  have hln : xs.length ≤ 1048576 := Nat.le_trans tot_len hn
  have hmk : ∀ u : World, (Instr.makeSlice 92 (.int .i64 xs.length) (.int .i64 xs.length)).run Tryz.prog u =
      .ok (.slice (some ⟨u.heap.size, 0, none⟩) xs.length xs.length) (u.alloc (.cells (madeCells #[.int .i64 0, .int .i64 0, .bool false] (xs.length * 3)) 182)) := fun u => by
    have h := run_make (P := Tryz.prog) u 92 182 i0 (.agg #[.int .i64 0, .int .i64 0, .bool false]) Tryz.underlying92 hi hz0 .i64 .i64 xs.length xs.length (by omega) (Int.le_refl _) (by rw [hz2]; omega) (by omega)
    simpa [hz1, Value.cells] using h
  have H := Lib.hid h
  have HN := Lib.hid hn
  clear h hn hi hz0 hz1 hz2
  go_enter Tryz.func155, Tryz.ntmps155
  go_wp2
  go_loopw [4] (fun i wr => ∃ k : Nat, k ≤ xs.length ∧ i = .int .i64 k ∧ Os w.heap.size wr (.slice (some ⟨w.heap.size, 0, none⟩) xs.length xs.length) (xs.take k ++ List.replicate (xs.length - k) ⟨0, 0, false⟩) ∧ Ext w wr) (fun i _ => xs.length - (intOf i).toNat)
  case atStart => exact ⟨0, Nat.zero_le _, rfl, by have := Os.made (α := Window) w xs.length 182 #[.int .i64 0, .int .i64 0, .bool false] ⟨0, 0, false⟩ rfl rfl hl; simpa [GT.sz] using this, (Ext.refl w).alloc _⟩
  case round =>
    obtain ⟨k, hk, rfl, hb, he⟩ := hrel
    have HB := Lib.hid hb
    have HE := Lib.hid he
    clear hb he
    by_cases hlt : k < xs.length
    · obtain ⟨b, o, x, rfl, _, hx, hc0, hc1, hc2, g0, g1, HR⟩ := (H.out.ext HE.out).atWindow k hlt
      clear H
      go_wp2_with fail
      refine (toWindow _ _ _ HR.out).mono ?_
      rintro e w1 ⟨v', rfl, ho', he'⟩
      obtain ⟨rfl, _r0, _r1⟩ := ho'.rv.openWindow
      obtain ⟨b2, o2, cs2, F2, x0, hb2, _, hL, ⟨rfl, _r0, _r1, rfl⟩, hat, hf2⟩ := (HB.out.ext he').at k (by simp; omega)
      cases hb2
      have hd0 := hat 0 _ rfl
      have hd1 := hat 1 _ rfl
      have hd2 := hat 2 _ rfl
      simp only [GT.sz, Nat.mul_one, Nat.add_zero, Nat.zero_add] at hd0 hd1 hd2
      have HB2 := Lib.hid (HB.out.put (i := k) he' (by simp; omega) HE.out.sz ho'.ow)
      have HE2 := Lib.hid (HE.out.tr he')
      clear HB HE hat he' ho'
      go_wp2
      go_roundw
      case rel =>
        refine ⟨k + 1, by omega, by go_num, ?_, (((HE2.out.set (Nat.le_refl _) _).set (Nat.le_refl _) _).set (Nat.le_refl _) _)⟩
        have := HB2.out
        rw [set_fill _ _ _ _ _ hlt (by simp; omega), ← take_snoc hx.out] at this
        simpa [putCells, GT.sz] using this
      case measure => simp [intOf]; omega
    · obtain rfl : k = xs.length := by omega
      go_wp2
      go_ret
      exact ⟨_, rfl, by simpa using HB.out, HE.out⟩
theorem info_Channel : (Tryz.prog.info? 96).map (fun i => (i.zero, i.size, i.bytes)) = some (some (.agg #[.int .i64 0, .int .i64 0, .int .i64 0, .int .i64 0]), 4, 32) := by kernel_rfl
theorem toChannelS (v : Value) (xs : List Channel) (w : World) (h : Rs w v xs) (hn : GT.tot xs ≤ 1048576) :
   Calls Tryz.prog 82 #[v] w fun e w' => ∃ v', e = .returned v' ∧ Os w.heap.size w' v' xs ∧ Ext w w' := by
  obtain ⟨a, c, rfl, hl⟩ := h.form
  obtain ⟨i0, hi, hz0, hz1, hz2⟩ := info_parts info_Channel
  have hln : xs.length ≤ 1048576 := Nat.le_trans tot_len hn
  have hmk : ∀ u : World, (Instr.makeSlice 38 (.int .i64 xs.length) (.int .i64 xs.length)).run Tryz.prog u =
      .ok (.slice (some ⟨u.heap.size, 0, none⟩) xs.length xs.length) (u.alloc (.cells (madeCells #[.int .i64 0, .int .i64 0, .int .i64 0, .int .i64 0] (xs.length * 4)) 96)) := fun u => by
    have h := run_make (P := Tryz.prog) u 38 96 i0 (.agg #[.int .i64 0, .int .i64 0, .int .i64 0, .int .i64 0]) Tryz.underlying38 hi hz0 .i64 .i64 xs.length xs.length (by omega) (Int.le_refl _) (by rw [hz2]; omega) (by omega)
    simpa [hz1, Value.cells] using h
  have H := Lib.hid h
  have HN := Lib.hid hn
  clear h hn hi hz0 hz1 hz2
  go_enter Tryz.func82, Tryz.ntmps82
  go_wp2
  go_loopw [4] (fun i wr => ∃ k : Nat, k ≤ xs.length ∧ i = .int .i64 k ∧ Os w.heap.size wr (.slice (some ⟨w.heap.size, 0, none⟩) xs.length xs.length) (xs.take k ++ List.replicate (xs.length - k) ⟨0, 0, 0, 0⟩) ∧ Ext w wr) (fun i _ => xs.length - (intOf i).toNat)
  case atStart => exact ⟨0, Nat.zero_le _, rfl, by have := Os.made (α := Channel) w xs.length 96 #[.int .i64 0, .int .i64 0, .int .i64 0, .int .i64 0] ⟨0, 0, 0, 0⟩ rfl rfl hl; simpa [GT.sz] using this, (Ext.refl w).alloc _⟩
  case round =>
    obtain ⟨k, hk, rfl, hb, he⟩ := hrel
    have HB := Lib.hid hb
    have HE := Lib.hid he
    clear hb he
    by_cases hlt : k < xs.length
    · obtain ⟨b, o, x, rfl, _, hx, hc0, hc1, hc2, hc3, g0, g1, g2, g3, HR⟩ := (H.out.ext HE.out).atChannel k hlt
      clear H
      go_wp2_with fail
      refine (toChannel _ _ _ HR.out).mono ?_
      rintro e w1 ⟨v', rfl, ho', he'⟩
      obtain ⟨rfl, _r0, _r1, _r2, _r3⟩ := ho'.rv.openChannel
      obtain ⟨b2, o2, cs2, F2, x0, hb2, _, hL, ⟨rfl, _r0, _r1, _r2, _r3, rfl⟩, hat, hf2⟩ := (HB.out.ext he').at k (by simp; omega)
      cases hb2
      have hd0 := hat 0 _ rfl
      have hd1 := hat 1 _ rfl
      have hd2 := hat 2 _ rfl
      have hd3 := hat 3 _ rfl
      simp only [GT.sz, Nat.mul_one, Nat.add_zero, Nat.zero_add] at hd0 hd1 hd2 hd3
      have HB2 := Lib.hid (HB.out.put (i := k) he' (by simp; omega) HE.out.sz ho'.ow)
      have HE2 := Lib.hid (HE.out.tr he')
      clear HB HE hat he' ho'
      go_wp2
      go_roundw
      case rel =>
        refine ⟨k + 1, by omega, by go_num, ?_, ((((HE2.out.set (Nat.le_refl _) _).set (Nat.le_refl _) _).set (Nat.le_refl _) _).set (Nat.le_refl _) _)⟩
        have := HB2.out
        rw [set_fill _ _ _ _ _ hlt (by simp; omega), ← take_snoc hx.out] at this
        simpa [putCells, GT.sz] using this
      case measure => simp [intOf]; omega
    · obtain rfl : k = xs.length := by omega
      go_wp2
      go_ret
      exact ⟨_, rfl, by simpa using HB.out, HE.out⟩
theorem info_Slot : (Tryz.prog.info? 171).map (fun i => (i.zero, i.size, i.bytes)) = some (some (.agg #[.int .i64 0, .int .i64 0]), 2, 16) := by kernel_rfl
theorem toSlotS (v : Value) (xs : List Slot) (w : World) (h : Rs w v xs) (hn : GT.tot xs ≤ 1048576) :
   Calls Tryz.prog 83 #[v] w fun e w' => ∃ v', e = .returned v' ∧ Os w.heap.size w' v' xs ∧ Ext w w' := by
  obtain ⟨a, c, rfl, hl⟩ := h.form
  obtain ⟨i0, hi, hz0, hz1, hz2⟩ := info_parts info_Slot
  have hln : xs.length ≤ 1048576 := Nat.le_trans tot_len hn
  have hmk : ∀ u : World, (Instr.makeSlice 39 (.int .i64 xs.length) (.int .i64 xs.length)).run Tryz.prog u =
      .ok (.slice (some ⟨u.heap.size, 0, none⟩) xs.length xs.length) (u.alloc (.cells (madeCells #[.int .i64 0, .int .i64 0] (xs.length * 2)) 171)) := fun u => by
    have h := run_make (P := Tryz.prog) u 39 171 i0 (.agg #[.int .i64 0, .int .i64 0]) Tryz.underlying39 hi hz0 .i64 .i64 xs.length xs.length (by omega) (Int.le_refl _) (by rw [hz2]; omega) (by omega)
    simpa [hz1, Value.cells] using h
  have H := Lib.hid h
  have HN := Lib.hid hn
  clear h hn hi hz0 hz1 hz2
  go_enter Tryz.func83, Tryz.ntmps83
  go_wp2
  go_loopw [4] (fun i wr => ∃ k : Nat, k ≤ xs.length ∧ i = .int .i64 k ∧ Os w.heap.size wr (.slice (some ⟨w.heap.size, 0, none⟩) xs.length xs.length) (xs.take k ++ List.replicate (xs.length - k) ⟨0, 0⟩) ∧ Ext w wr) (fun i _ => xs.length - (intOf i).toNat)
  case atStart => exact ⟨0, Nat.zero_le _, rfl, by have := Os.made (α := Slot) w xs.length 171 #[.int .i64 0, .int .i64 0] ⟨0, 0⟩ rfl rfl hl; simpa [GT.sz] using this, (Ext.refl w).alloc _⟩
  case round =>
    obtain ⟨k, hk, rfl, hb, he⟩ := hrel
    have HB := Lib.hid hb
    have HE := Lib.hid he
    clear hb he
    by_cases hlt : k < xs.length
    · obtain ⟨b, o, x, rfl, _, hx, hc0, hc1, g0, g1, HR⟩ := (H.out.ext HE.out).atSlot k hlt
      clear H
      go_wp2_with fail
      refine (toSlot _ _ _ HR.out).mono ?_
      rintro e w1 ⟨v', rfl, ho', he'⟩
      obtain ⟨rfl, _r0, _r1⟩ := ho'.rv.openSlot
      obtain ⟨b2, o2, cs2, F2, x0, hb2, _, hL, ⟨rfl, _r0, _r1, rfl⟩, hat, hf2⟩ := (HB.out.ext he').at k (by simp; omega)
      cases hb2
      have hd0 := hat 0 _ rfl
      have hd1 := hat 1 _ rfl
      simp only [GT.sz, Nat.mul_one, Nat.add_zero, Nat.zero_add] at hd0 hd1
      have HB2 := Lib.hid (HB.out.put (i := k) he' (by simp; omega) HE.out.sz ho'.ow)
      have HE2 := Lib.hid (HE.out.tr he')
      clear HB HE hat he' ho'
      go_wp2
      go_roundw
      case rel =>
        refine ⟨k + 1, by omega, by go_num, ?_, ((HE2.out.set (Nat.le_refl _) _).set (Nat.le_refl _) _)⟩
        have := HB2.out
        rw [set_fill _ _ _ _ _ hlt (by simp; omega), ← take_snoc hx.out] at this
        simpa [putCells, GT.sz] using this
      case measure => simp [intOf]; omega
    · obtain rfl : k = xs.length := by omega
      go_wp2
      go_ret
      exact ⟨_, rfl, by simpa using HB.out, HE.out⟩
theorem info_Order : (Tryz.prog.info? 147).map (fun i => (i.zero, i.size, i.bytes)) = some (some (.agg #[.int .i64 0, .int .i64 0, .int .i64 0]), 3, 24) := by kernel_rfl
theorem toOrderS (v : Value) (xs : List Order) (w : World) (h : Rs w v xs) (hn : GT.tot xs ≤ 1048576) :
   Calls Tryz.prog 84 #[v] w fun e w' => ∃ v', e = .returned v' ∧ Os w.heap.size w' v' xs ∧ Ext w w' := by
  obtain ⟨a, c, rfl, hl⟩ := h.form
  obtain ⟨i0, hi, hz0, hz1, hz2⟩ := info_parts info_Order
  have hln : xs.length ≤ 1048576 := Nat.le_trans tot_len hn
  have hmk : ∀ u : World, (Instr.makeSlice 88 (.int .i64 xs.length) (.int .i64 xs.length)).run Tryz.prog u =
      .ok (.slice (some ⟨u.heap.size, 0, none⟩) xs.length xs.length) (u.alloc (.cells (madeCells #[.int .i64 0, .int .i64 0, .int .i64 0] (xs.length * 3)) 147)) := fun u => by
    have h := run_make (P := Tryz.prog) u 88 147 i0 (.agg #[.int .i64 0, .int .i64 0, .int .i64 0]) Tryz.underlying88 hi hz0 .i64 .i64 xs.length xs.length (by omega) (Int.le_refl _) (by rw [hz2]; omega) (by omega)
    simpa [hz1, Value.cells] using h
  have H := Lib.hid h
  have HN := Lib.hid hn
  clear h hn hi hz0 hz1 hz2
  go_enter Tryz.func84, Tryz.ntmps84
  go_wp2
  go_loopw [4] (fun i wr => ∃ k : Nat, k ≤ xs.length ∧ i = .int .i64 k ∧ Os w.heap.size wr (.slice (some ⟨w.heap.size, 0, none⟩) xs.length xs.length) (xs.take k ++ List.replicate (xs.length - k) ⟨0, 0, 0⟩) ∧ Ext w wr) (fun i _ => xs.length - (intOf i).toNat)
  case atStart => exact ⟨0, Nat.zero_le _, rfl, by have := Os.made (α := Order) w xs.length 147 #[.int .i64 0, .int .i64 0, .int .i64 0] ⟨0, 0, 0⟩ rfl rfl hl; simpa [GT.sz] using this, (Ext.refl w).alloc _⟩
  case round =>
    obtain ⟨k, hk, rfl, hb, he⟩ := hrel
    have HB := Lib.hid hb
    have HE := Lib.hid he
    clear hb he
    by_cases hlt : k < xs.length
    · obtain ⟨b, o, x, rfl, _, hx, hc0, hc1, hc2, g0, g1, g2, HR⟩ := (H.out.ext HE.out).atOrder k hlt
      clear H
      go_wp2_with fail
      refine (toOrder _ _ _ HR.out).mono ?_
      rintro e w1 ⟨v', rfl, ho', he'⟩
      obtain ⟨rfl, _r0, _r1, _r2⟩ := ho'.rv.openOrder
      obtain ⟨b2, o2, cs2, F2, x0, hb2, _, hL, ⟨rfl, _r0, _r1, _r2, rfl⟩, hat, hf2⟩ := (HB.out.ext he').at k (by simp; omega)
      cases hb2
      have hd0 := hat 0 _ rfl
      have hd1 := hat 1 _ rfl
      have hd2 := hat 2 _ rfl
      simp only [GT.sz, Nat.mul_one, Nat.add_zero, Nat.zero_add] at hd0 hd1 hd2
      have HB2 := Lib.hid (HB.out.put (i := k) he' (by simp; omega) HE.out.sz ho'.ow)
      have HE2 := Lib.hid (HE.out.tr he')
      clear HB HE hat he' ho'
      go_wp2
      go_roundw
      case rel =>
        refine ⟨k + 1, by omega, by go_num, ?_, (((HE2.out.set (Nat.le_refl _) _).set (Nat.le_refl _) _).set (Nat.le_refl _) _)⟩
        have := HB2.out
        rw [set_fill _ _ _ _ _ hlt (by simp; omega), ← take_snoc hx.out] at this
        simpa [putCells, GT.sz] using this
      case measure => simp [intOf]; omega
    · obtain rfl : k = xs.length := by omega
      go_wp2
      go_ret
      exact ⟨_, rfl, by simpa using HB.out, HE.out⟩
theorem info_Health : (Tryz.prog.info? 64).map (fun i => (i.zero, i.size, i.bytes)) = some (some (.agg #[.bool false, .int .i64 0]), 2, 16) := by kernel_rfl
theorem toHealthS (v : Value) (xs : List Health) (w : World) (h : Rs w v xs) (hn : GT.tot xs ≤ 1048576) :
   Calls Tryz.prog 22 #[v] w fun e w' => ∃ v', e = .returned v' ∧ Os w.heap.size w' v' xs ∧ Ext w w' := by
  obtain ⟨a, c, rfl, hl⟩ := h.form
  obtain ⟨i0, hi, hz0, hz1, hz2⟩ := info_parts info_Health
  have hln : xs.length ≤ 1048576 := Nat.le_trans tot_len hn
  have hmk : ∀ u : World, (Instr.makeSlice 47 (.int .i64 xs.length) (.int .i64 xs.length)).run Tryz.prog u =
      .ok (.slice (some ⟨u.heap.size, 0, none⟩) xs.length xs.length) (u.alloc (.cells (madeCells #[.bool false, .int .i64 0] (xs.length * 2)) 64)) := fun u => by
    have h := run_make (P := Tryz.prog) u 47 64 i0 (.agg #[.bool false, .int .i64 0]) Tryz.underlying47 hi hz0 .i64 .i64 xs.length xs.length (by omega) (Int.le_refl _) (by rw [hz2]; omega) (by omega)
    simpa [hz1, Value.cells] using h
  have H := Lib.hid h
  have HN := Lib.hid hn
  clear h hn hi hz0 hz1 hz2
  go_enter Tryz.func22, Tryz.ntmps22
  go_wp2
  go_loopw [4] (fun i wr => ∃ k : Nat, k ≤ xs.length ∧ i = .int .i64 k ∧ Os w.heap.size wr (.slice (some ⟨w.heap.size, 0, none⟩) xs.length xs.length) (xs.take k ++ List.replicate (xs.length - k) ⟨false, 0⟩) ∧ Ext w wr) (fun i _ => xs.length - (intOf i).toNat)
  case atStart => exact ⟨0, Nat.zero_le _, rfl, by have := Os.made (α := Health) w xs.length 64 #[.bool false, .int .i64 0] ⟨false, 0⟩ rfl rfl hl; simpa [GT.sz] using this, (Ext.refl w).alloc _⟩
  case round =>
    obtain ⟨k, hk, rfl, hb, he⟩ := hrel
    have HB := Lib.hid hb
    have HE := Lib.hid he
    clear hb he
    by_cases hlt : k < xs.length
    · obtain ⟨b, o, x, rfl, _, hx, hc0, hc1, g1, HR⟩ := (H.out.ext HE.out).atHealth k hlt
      clear H
      go_wp2_with fail
      refine (toHealth _ _ _ HR.out).mono ?_
      rintro e w1 ⟨v', rfl, ho', he'⟩
      obtain ⟨rfl, _r1⟩ := ho'.rv.openHealth
      obtain ⟨b2, o2, cs2, F2, x0, hb2, _, hL, ⟨rfl, _r1, rfl⟩, hat, hf2⟩ := (HB.out.ext he').at k (by simp; omega)
      cases hb2
      have hd0 := hat 0 _ rfl
      have hd1 := hat 1 _ rfl
      simp only [GT.sz, Nat.mul_one, Nat.add_zero, Nat.zero_add] at hd0 hd1
      have HB2 := Lib.hid (HB.out.put (i := k) he' (by simp; omega) HE.out.sz ho'.ow)
      have HE2 := Lib.hid (HE.out.tr he')
      clear HB HE hat he' ho'
      go_wp2
      go_roundw
      case rel =>
        refine ⟨k + 1, by omega, by go_num, ?_, ((HE2.out.set (Nat.le_refl _) _).set (Nat.le_refl _) _)⟩
        have := HB2.out
        rw [set_fill _ _ _ _ _ hlt (by simp; omega), ← take_snoc hx.out] at this
        simpa [putCells, GT.sz] using this
      case measure => simp [intOf]; omega
    · obtain rfl : k = xs.length := by omega
      go_wp2
      go_ret
      exact ⟨_, rfl, by simpa using HB.out, HE.out⟩
theorem info_OrderS : (Tryz.prog.info? 88).map (fun i => (i.zero, i.size, i.bytes)) = some (some (.slice none 0 0), 1, 24) := by kernel_rfl
theorem toOrderSS (v : Value) (xs : List (List Order)) (w : World) (h : Rs w v xs) (hn : GT.tot xs ≤ 1048576) :
   Calls Tryz.prog 45 #[v] w fun e w' => ∃ v', e = .returned v' ∧ Os w.heap.size w' v' xs ∧ Ext w w' := by
  obtain ⟨a, c, rfl, hl⟩ := h.form
  obtain ⟨i0, hi, hz0, hz1, hz2⟩ := info_parts info_OrderS
  have hln : xs.length ≤ 1048576 := Nat.le_trans tot_len hn
  have hmk : ∀ u : World, (Instr.makeSlice 42 (.int .i64 xs.length) (.int .i64 xs.length)).run Tryz.prog u =
      .ok (.slice (some ⟨u.heap.size, 0, none⟩) xs.length xs.length) (u.alloc (.cells (madeCells #[.slice none 0 0] (xs.length * 1)) 88)) := fun u => by
    have h := run_make (P := Tryz.prog) u 42 88 i0 (.slice none 0 0) Tryz.underlying42 hi hz0 .i64 .i64 xs.length xs.length (by omega) (Int.le_refl _) (by rw [hz2]; omega) (by omega)
    simpa [hz1, Value.cells] using h
  have H := Lib.hid h
  have HN := Lib.hid hn
  clear h hn hi hz0 hz1 hz2
  go_enter Tryz.func45, Tryz.ntmps45
  go_wp2
  go_loopw [4] (fun i wr => ∃ k : Nat, k ≤ xs.length ∧ i = .int .i64 k ∧ Os w.heap.size wr (.slice (some ⟨w.heap.size, 0, none⟩) xs.length xs.length) (xs.take k ++ List.replicate (xs.length - k) []) ∧ Ext w wr) (fun i _ => xs.length - (intOf i).toNat)
  case atStart => exact ⟨0, Nat.zero_le _, rfl, by have := Os.made (α := List Order) w xs.length 88 #[.slice none 0 0] [] rfl rfl hl; simpa [GT.sz] using this, (Ext.refl w).alloc _⟩
  case round =>
    obtain ⟨k, hk, rfl, hb, he⟩ := hrel
    have HB := Lib.hid hb
    have HE := Lib.hid he
    clear hb he
    by_cases hlt : k < xs.length
    · obtain ⟨b, o, x, a', c', rfl, _, hx, hc0, HR, hl'⟩ := (H.out.ext HE.out).atList k hlt
      clear H
      have hxn : Hid (GT.tot x ≤ 1048576) := Lib.hid (by have h1 := tot_at hx.out; have h3 := HN.out; omega)
      go_wp2_with fail
      refine (toOrderS _ _ _ HR.out hxn.out).mono ?_
      rintro e w1 ⟨v', rfl, ho', he'⟩
      obtain ⟨av, cv, rfl, hlv⟩ := ho'.form
      obtain ⟨b2, o2, cs2, F2, x0, hb2, _, hL, ⟨v0, rfl, _⟩, hat, hf2⟩ := (HB.out.ext he').at k (by simp; omega)
      cases hb2
      have hd0 := hat 0 _ rfl
      simp only [GT.sz, Nat.mul_one, Nat.add_zero, Nat.zero_add] at hd0
      have HB2 := Lib.hid (HB.out.put (i := k) he' (by simp; omega) HE.out.sz ho'.ow)
      have HE2 := Lib.hid (HE.out.tr he')
      clear HB HE hat he' ho'
      go_wp2
      go_roundw
      case rel =>
        refine ⟨k + 1, by omega, by go_num, ?_, (HE2.out.set (Nat.le_refl _) _)⟩
        have := HB2.out
        rw [set_fill _ _ _ _ _ hlt (by simp; omega), ← take_snoc hx.out] at this
        simpa [putCells, GT.sz] using this
      case measure => simp [intOf]; omega
    · obtain rfl : k = xs.length := by omega
      go_wp2
      go_ret
      exact ⟨_, rfl, by simpa using HB.out, HE.out⟩
theorem toPart (v : Value) (x : Part) (w : World) (h : Rv w v x) (hn : GT.tot x ≤ 1048576) :
   Calls Tryz.prog 123 #[v] w fun e w' => ∃ v', e = .returned v' ∧ Ov w.heap.size w' v' x ∧ Ext w w' := by
  have ht : GT.tot x = GT.tot x.Windows + GT.tot x.Cells := rfl
  obtain ⟨a0, c0, rfl, r1, h0, l0⟩ := h.openPart
  clear h
  have E0 := Lib.hid ((((Ext.refl w).alloc (.cells #[.slice a0 x.Windows.length c0, .int .i64 x.Cells] 163)).alloc (.cells #[.slice none 0 0, .int .i64 0] 94)).alloc (.cells #[.slice none 0 0, .int .i64 0] 94))
  have KA : Bk (((w.alloc (.cells #[.slice a0 x.Windows.length c0, .int .i64 x.Cells] 163)).alloc (.cells #[.slice none 0 0, .int .i64 0] 94)).alloc (.cells #[.slice none 0 0, .int .i64 0] 94)) w.heap.size [.slice a0 x.Windows.length c0, .int .i64 x.Cells] 163 := (Bk.new _ _ _).ext (((Ext.refl _).alloc _).alloc _)
  have KB : Bk (((w.alloc (.cells #[.slice a0 x.Windows.length c0, .int .i64 x.Cells] 163)).alloc (.cells #[.slice none 0 0, .int .i64 0] 94)).alloc (.cells #[.slice none 0 0, .int .i64 0] 94)) (w.heap.size + 1) [.slice none 0 0, .int .i64 0] 94 := (Bk.new1 _ _ _ _).ext ((Ext.refl _).alloc _)
  have KC : Bk (((w.alloc (.cells #[.slice a0 x.Windows.length c0, .int .i64 x.Cells] 163)).alloc (.cells #[.slice none 0 0, .int .i64 0] 94)).alloc (.cells #[.slice none 0 0, .int .i64 0] 94)) (w.heap.size + 1 + 1) [.slice none 0 0, .int .i64 0] 94 := Bk.new2 _ _ _ _ _
  replace KA := Lib.hid KA; replace KB := Lib.hid KB; replace KC := Lib.hid KC
  go_enter Tryz.func123, Tryz.ntmps123
  go_wp2_with fail
  refine (toWindowS _ _ _ (h0.out.ext (E0.out)) (by omega)).mono ?_
  rintro e w1 ⟨v0, rfl, ho0, he0⟩
  have E1 := Lib.hid (Ext.tr (E0.out) he0)
  have sz0 : w.heap.size + 1 + 1 + 1 ≤ w1.heap.size := by have := he0.sz; simpa using this
  have O0 := Lib.hid (Oe.ofS ho0 (L' := w.heap.size + 1 + 1 + 1) (by simp) sz0)
  obtain ⟨p0, q0, rfl, _⟩ := ho0.form
  replace KA := Lib.hid (Bk.ext (KA.out) he0)
  replace KB := Lib.hid (Bk.ext (KB.out) he0)
  replace KC := Lib.hid (Bk.ext (KC.out) he0)
  have fa0 := KA.out.cell (j := 0) rfl
  have fa1 := KA.out.cell (j := 1) rfl
  have fb0 := KB.out.cell (j := 0) rfl
  have fb1 := KB.out.cell (j := 1) rfl
  have fc0 := KC.out.cell (j := 0) rfl
  have fc1 := KC.out.cell (j := 1) rfl
  have fza := KA.out.fz
  have fzb := KB.out.fz
  have fzc := KC.out.fz
  clear ho0 he0
  go_wp2
  refine bodyPost_ret (v := .agg #[.slice p0 x.Windows.length q0, .int .i64 x.Cells]) (by simp [results, Tryz.results123, go_sem, fb0, fb1]) rfl ⟨_, rfl, ?_, ?_⟩
  · have hh : ∀ {W : World}, Hi (w.heap.size + 1 + 1 + 1) w1 W → Ov (w.heap.size + 1 + 1 + 1) W (.agg #[.slice p0 x.Windows.length q0, .int .i64 x.Cells]) x := fun hW =>
      (Oe.mkPart (O0.out.hi hW (by omega)) r1).ov
    exact (hh ((Hi.set (Hi.set (Hi.set (Hi.set (Hi.refl _ _) (by simp <;> omega) _) (by simp <;> omega) _) (by simp <;> omega) _) (by simp <;> omega) _))).mono (by omega)
  · exact (Ext.set (Ext.set (Ext.set (Ext.set E1.out (by simp <;> omega) _) (by simp <;> omega) _) (by simp <;> omega) _) (by simp <;> omega) _)
theorem info_Part : (Tryz.prog.info? 94).map (fun i => (i.zero, i.size, i.bytes)) = some (some (.agg #[.slice none 0 0, .int .i64 0]), 2, 32) := by kernel_rfl
theorem toPartS (v : Value) (xs : List Part) (w : World) (h : Rs w v xs) (hn : GT.tot xs ≤ 1048576) :
   Calls Tryz.prog 81 #[v] w fun e w' => ∃ v', e = .returned v' ∧ Os w.heap.size w' v' xs ∧ Ext w w' := by
  obtain ⟨a, c, rfl, hl⟩ := h.form
  obtain ⟨i0, hi, hz0, hz1, hz2⟩ := info_parts info_Part
  have hln : xs.length ≤ 1048576 := Nat.le_trans tot_len hn
  have hmk : ∀ u : World, (Instr.makeSlice 37 (.int .i64 xs.length) (.int .i64 xs.length)).run Tryz.prog u =
      .ok (.slice (some ⟨u.heap.size, 0, none⟩) xs.length xs.length) (u.alloc (.cells (madeCells #[.slice none 0 0, .int .i64 0] (xs.length * 2)) 94)) := fun u => by
    have h := run_make (P := Tryz.prog) u 37 94 i0 (.agg #[.slice none 0 0, .int .i64 0]) Tryz.underlying37 hi hz0 .i64 .i64 xs.length xs.length (by omega) (Int.le_refl _) (by rw [hz2]; omega) (by omega)
    simpa [hz1, Value.cells] using h
  have H := Lib.hid h
  have HN := Lib.hid hn
  clear h hn hi hz0 hz1 hz2
  go_enter Tryz.func81, Tryz.ntmps81
  go_wp2
  go_loopw [4] (fun i wr => ∃ k : Nat, k ≤ xs.length ∧ i = .int .i64 k ∧ Os w.heap.size wr (.slice (some ⟨w.heap.size, 0, none⟩) xs.length xs.length) (xs.take k ++ List.replicate (xs.length - k) ⟨[], 0⟩) ∧ Ext w wr) (fun i _ => xs.length - (intOf i).toNat)
  case atStart => exact ⟨0, Nat.zero_le _, rfl, by have := Os.made (α := Part) w xs.length 94 #[.slice none 0 0, .int .i64 0] ⟨[], 0⟩ rfl rfl hl; simpa [GT.sz] using this, (Ext.refl w).alloc _⟩
  case round =>
    obtain ⟨k, hk, rfl, hb, he⟩ := hrel
    have HB := Lib.hid hb
    have HE := Lib.hid he
    clear hb he
    by_cases hlt : k < xs.length
    · obtain ⟨b, o, x, a0, c0, rfl, _, hx, hc0, hc1, g1, h0, l0, HR⟩ := (H.out.ext HE.out).atPart k hlt
      clear H
      have hxn : Hid (GT.tot x ≤ 1048576) := Lib.hid (by have h1 := tot_at hx.out; have h3 := HN.out; omega)
      go_wp2_with fail
      refine (toPart _ _ _ HR.out hxn.out).mono ?_
      rintro e w1 ⟨v', rfl, ho', he'⟩
      obtain ⟨p0, q0, rfl, _r1, _h0, _l0⟩ := ho'.rv.openPart
      obtain ⟨b2, o2, cs2, F2, x0, hb2, _, hL, ⟨y0, rfl, _h0, _r1⟩, hat, hf2⟩ := (HB.out.ext he').at k (by simp; omega)
      cases hb2
      have hd0 := hat 0 _ rfl
      have hd1 := hat 1 _ rfl
      simp only [GT.sz, Nat.mul_one, Nat.add_zero, Nat.zero_add] at hd0 hd1
      have HB2 := Lib.hid (HB.out.put (i := k) he' (by simp; omega) HE.out.sz ho'.ow)
      have HE2 := Lib.hid (HE.out.tr he')
      clear HB HE hat he' ho'
      go_wp2
      go_roundw
      case rel =>
        refine ⟨k + 1, by omega, by go_num, ?_, ((HE2.out.set (Nat.le_refl _) _).set (Nat.le_refl _) _)⟩
        have := HB2.out
        rw [set_fill _ _ _ _ _ hlt (by simp; omega), ← take_snoc hx.out] at this
        simpa [putCells, GT.sz] using this
      case measure => simp [intOf]; omega
    · obtain rfl : k = xs.length := by omega
      go_wp2
      go_ret
      exact ⟨_, rfl, by simpa using HB.out, HE.out⟩
theorem toSetup (v : Value) (x : Setup) (w : World) (h : Rv w v x) (hn : GT.tot x ≤ 1048576) :
   Calls Tryz.prog 44 #[v] w fun e w' => ∃ v', e = .returned v' ∧ Ov w.heap.size w' v' x ∧ Ext w w' := by
  have ht : GT.tot x = GT.tot x.Parts + GT.tot x.Channels + GT.tot x.Slots := rfl
  obtain ⟨a0, c0, a1, c1, a2, c2, rfl, h0, l0, h1, l1, h2, l2⟩ := h.openSetup
  clear h
  have E0 := Lib.hid ((((Ext.refl w).alloc (.cells #[.slice a0 x.Parts.length c0, .slice a1 x.Channels.length c1, .slice a2 x.Slots.length c2] 26)).alloc (.cells #[.slice none 0 0, .slice none 0 0, .slice none 0 0] 41)).alloc (.cells #[.slice none 0 0, .slice none 0 0, .slice none 0 0] 41))
  have KA : Bk (((w.alloc (.cells #[.slice a0 x.Parts.length c0, .slice a1 x.Channels.length c1, .slice a2 x.Slots.length c2] 26)).alloc (.cells #[.slice none 0 0, .slice none 0 0, .slice none 0 0] 41)).alloc (.cells #[.slice none 0 0, .slice none 0 0, .slice none 0 0] 41)) w.heap.size [.slice a0 x.Parts.length c0, .slice a1 x.Channels.length c1, .slice a2 x.Slots.length c2] 26 := (Bk.new _ _ _).ext (((Ext.refl _).alloc _).alloc _)
  have KB : Bk (((w.alloc (.cells #[.slice a0 x.Parts.length c0, .slice a1 x.Channels.length c1, .slice a2 x.Slots.length c2] 26)).alloc (.cells #[.slice none 0 0, .slice none 0 0, .slice none 0 0] 41)).alloc (.cells #[.slice none 0 0, .slice none 0 0, .slice none 0 0] 41)) (w.heap.size + 1) [.slice none 0 0, .slice none 0 0, .slice none 0 0] 41 := (Bk.new1 _ _ _ _).ext ((Ext.refl _).alloc _)
  have KC : Bk (((w.alloc (.cells #[.slice a0 x.Parts.length c0, .slice a1 x.Channels.length c1, .slice a2 x.Slots.length c2] 26)).alloc (.cells #[.slice none 0 0, .slice none 0 0, .slice none 0 0] 41)).alloc (.cells #[.slice none 0 0, .slice none 0 0, .slice none 0 0] 41)) (w.heap.size + 1 + 1) [.slice none 0 0, .slice none 0 0, .slice none 0 0] 41 := Bk.new2 _ _ _ _ _
  replace KA := Lib.hid KA; replace KB := Lib.hid KB; replace KC := Lib.hid KC
  go_enter Tryz.func44, Tryz.ntmps44
  go_wp2_with fail
  refine (toPartS _ _ _ (h0.out.ext (E0.out)) (by omega)).mono ?_
  rintro e w1 ⟨v0, rfl, ho0, he0⟩
  have E1 := Lib.hid (Ext.tr (E0.out) he0)
  have sz0 : w.heap.size + 1 + 1 + 1 ≤ w1.heap.size := by have := he0.sz; simpa using this
  have O0 := Lib.hid (Oe.ofS ho0 (L' := w.heap.size + 1 + 1 + 1) (by simp) sz0)
  obtain ⟨p0, q0, rfl, _⟩ := ho0.form
  replace KA := Lib.hid (Bk.ext (KA.out) he0)
  replace KB := Lib.hid (Bk.ext (KB.out) he0)
  replace KC := Lib.hid (Bk.ext (KC.out) he0)
  have fa0 := KA.out.cell (j := 0) rfl
  have fa1 := KA.out.cell (j := 1) rfl
  have fa2 := KA.out.cell (j := 2) rfl
  have fb0 := KB.out.cell (j := 0) rfl
  have fb1 := KB.out.cell (j := 1) rfl
  have fb2 := KB.out.cell (j := 2) rfl
  have fc0 := KC.out.cell (j := 0) rfl
  have fc1 := KC.out.cell (j := 1) rfl
  have fc2 := KC.out.cell (j := 2) rfl
  have fza := KA.out.fz
  have fzb := KB.out.fz
  have fzc := KC.out.fz
  clear ho0 he0
  go_wp2_with fail
  refine (toChannelS _ _ _ (h1.out.ext ((Ext.set E1.out (by simp <;> omega) _))) (by omega)).mono ?_
  rintro e w2 ⟨v1, rfl, ho1, he1⟩
  have E2 := Lib.hid (Ext.tr ((Ext.set E1.out (by simp <;> omega) _)) he1)
  have sz1 : w1.heap.size ≤ w2.heap.size := by have := he1.sz; simpa using this
  have O1 := Lib.hid (Oe.ofS ho1 (L' := w1.heap.size) (by simp) sz1)
  obtain ⟨p1, q1, rfl, _⟩ := ho1.form
  replace O0 := Lib.hid ((O0.out.hi (n := w.heap.size + 1 + 1 + 1) ((Hi.set (Hi.refl _ _) (by simp <;> omega) _)) (by omega)).ext he1)
  clear fa0 fa1 fa2 fb0 fb1 fb2 fc0 fc1 fc2 fza fzb fzc
  replace KA := Lib.hid (Bk.ext ((Bk.set_ne KA.out (by simp <;> omega) _)) he1)
  replace KB := Lib.hid (Bk.ext ((Bk.set_ne KB.out (by simp <;> omega) _)) he1)
  replace KC := Lib.hid (Bk.ext ((Bk.set KC.out 0 _)) he1)
  have fa0 := KA.out.cell (j := 0) rfl
  have fa1 := KA.out.cell (j := 1) rfl
  have fa2 := KA.out.cell (j := 2) rfl
  have fb0 := KB.out.cell (j := 0) rfl
  have fb1 := KB.out.cell (j := 1) rfl
  have fb2 := KB.out.cell (j := 2) rfl
  have fc0 := KC.out.cell (j := 0) rfl
  have fc1 := KC.out.cell (j := 1) rfl
  have fc2 := KC.out.cell (j := 2) rfl
  have fza := KA.out.fz
  have fzb := KB.out.fz
  have fzc := KC.out.fz
  clear ho1 he1
  go_wp2_with fail
  refine (toSlotS _ _ _ (h2.out.ext ((Ext.set E2.out (by simp <;> omega) _))) (by omega)).mono ?_
  rintro e w3 ⟨v2, rfl, ho2, he2⟩
  have E3 := Lib.hid (Ext.tr ((Ext.set E2.out (by simp <;> omega) _)) he2)
  have sz2 : w2.heap.size ≤ w3.heap.size := by have := he2.sz; simpa using this
  have O2 := Lib.hid (Oe.ofS ho2 (L' := w2.heap.size) (by simp) sz2)
  obtain ⟨p2, q2, rfl, _⟩ := ho2.form
  replace O0 := Lib.hid ((O0.out.hi (n := w.heap.size + 1 + 1 + 1) ((Hi.set (Hi.refl _ _) (by simp <;> omega) _)) (by omega)).ext he2)
  replace O1 := Lib.hid ((O1.out.hi (n := w.heap.size + 1 + 1 + 1) ((Hi.set (Hi.refl _ _) (by simp <;> omega) _)) (by omega)).ext he2)
  clear fa0 fa1 fa2 fb0 fb1 fb2 fc0 fc1 fc2 fza fzb fzc
  replace KA := Lib.hid (Bk.ext ((Bk.set_ne KA.out (by simp <;> omega) _)) he2)
  replace KB := Lib.hid (Bk.ext ((Bk.set_ne KB.out (by simp <;> omega) _)) he2)
  replace KC := Lib.hid (Bk.ext ((Bk.set KC.out 1 _)) he2)
  have fa0 := KA.out.cell (j := 0) rfl
  have fa1 := KA.out.cell (j := 1) rfl
  have fa2 := KA.out.cell (j := 2) rfl
  have fb0 := KB.out.cell (j := 0) rfl
  have fb1 := KB.out.cell (j := 1) rfl
  have fb2 := KB.out.cell (j := 2) rfl
  have fc0 := KC.out.cell (j := 0) rfl
  have fc1 := KC.out.cell (j := 1) rfl
  have fc2 := KC.out.cell (j := 2) rfl
  have fza := KA.out.fz
  have fzb := KB.out.fz
  have fzc := KC.out.fz
  clear ho2 he2
  go_wp2
  refine bodyPost_ret (v := .agg #[.slice p0 x.Parts.length q0, .slice p1 x.Channels.length q1, .slice p2 x.Slots.length q2]) (by simp [results, Tryz.results44, go_sem, fb0, fb1, fb2]) rfl ⟨_, rfl, ?_, ?_⟩
  · have hh : ∀ {W : World}, Hi (w.heap.size + 1 + 1 + 1) w3 W → Ov (w.heap.size + 1 + 1 + 1) W (.agg #[.slice p0 x.Parts.length q0, .slice p1 x.Channels.length q1, .slice p2 x.Slots.length q2]) x := fun hW =>
      (Oe.mkSetup (O0.out.hi hW (by omega)) (O1.out.hi hW (by omega)) (O2.out.hi hW (by omega))).ov
    exact (hh ((Hi.set (Hi.set (Hi.set (Hi.set (Hi.refl _ _) (by simp <;> omega) _) (by simp <;> omega) _) (by simp <;> omega) _) (by simp <;> omega) _))).mono (by omega)
  · exact (Ext.set (Ext.set (Ext.set (Ext.set E3.out (by simp <;> omega) _) (by simp <;> omega) _) (by simp <;> omega) _) (by simp <;> omega) _)
theorem toCore (v : Value) (x : Core) (w : World) (h : Rv w v x) (hn : GT.tot x ≤ 1048576) :
   Calls Tryz.prog 85 #[v] w fun e w' => ∃ v', e = .returned v' ∧ Ov w.heap.size w' v' x ∧ Ext w w' := by
  have ht : GT.tot x = GT.tot x.Cells + GT.tot x.At + GT.tot x.Stopped := rfl
  obtain ⟨a0, c0, rfl, r1, h0, l0⟩ := h.openCore
  clear h
  have E0 := Lib.hid ((((Ext.refl w).alloc (.cells #[.slice a0 x.Cells.length c0, .int .i64 x.At, .bool x.Stopped] 125)).alloc (.cells #[.slice none 0 0, .int .i64 0, .bool false] 70)).alloc (.cells #[.slice none 0 0, .int .i64 0, .bool false] 70))
  have KA : Bk (((w.alloc (.cells #[.slice a0 x.Cells.length c0, .int .i64 x.At, .bool x.Stopped] 125)).alloc (.cells #[.slice none 0 0, .int .i64 0, .bool false] 70)).alloc (.cells #[.slice none 0 0, .int .i64 0, .bool false] 70)) w.heap.size [.slice a0 x.Cells.length c0, .int .i64 x.At, .bool x.Stopped] 125 := (Bk.new _ _ _).ext (((Ext.refl _).alloc _).alloc _)
  have KB : Bk (((w.alloc (.cells #[.slice a0 x.Cells.length c0, .int .i64 x.At, .bool x.Stopped] 125)).alloc (.cells #[.slice none 0 0, .int .i64 0, .bool false] 70)).alloc (.cells #[.slice none 0 0, .int .i64 0, .bool false] 70)) (w.heap.size + 1) [.slice none 0 0, .int .i64 0, .bool false] 70 := (Bk.new1 _ _ _ _).ext ((Ext.refl _).alloc _)
  have KC : Bk (((w.alloc (.cells #[.slice a0 x.Cells.length c0, .int .i64 x.At, .bool x.Stopped] 125)).alloc (.cells #[.slice none 0 0, .int .i64 0, .bool false] 70)).alloc (.cells #[.slice none 0 0, .int .i64 0, .bool false] 70)) (w.heap.size + 1 + 1) [.slice none 0 0, .int .i64 0, .bool false] 70 := Bk.new2 _ _ _ _ _
  replace KA := Lib.hid KA; replace KB := Lib.hid KB; replace KC := Lib.hid KC
  go_enter Tryz.func85, Tryz.ntmps85
  go_wp2_with fail
  refine (toIntS _ _ _ (h0.out.ext (E0.out)) (by omega)).mono ?_
  rintro e w1 ⟨v0, rfl, ho0, he0⟩
  have E1 := Lib.hid (Ext.tr (E0.out) he0)
  have sz0 : w.heap.size + 1 + 1 + 1 ≤ w1.heap.size := by have := he0.sz; simpa using this
  have O0 := Lib.hid (Oe.ofS ho0 (L' := w.heap.size + 1 + 1 + 1) (by simp) sz0)
  obtain ⟨p0, q0, rfl, _⟩ := ho0.form
  replace KA := Lib.hid (Bk.ext (KA.out) he0)
  replace KB := Lib.hid (Bk.ext (KB.out) he0)
  replace KC := Lib.hid (Bk.ext (KC.out) he0)
  have fa0 := KA.out.cell (j := 0) rfl
  have fa1 := KA.out.cell (j := 1) rfl
  have fa2 := KA.out.cell (j := 2) rfl
  have fb0 := KB.out.cell (j := 0) rfl
  have fb1 := KB.out.cell (j := 1) rfl
  have fb2 := KB.out.cell (j := 2) rfl
  have fc0 := KC.out.cell (j := 0) rfl
  have fc1 := KC.out.cell (j := 1) rfl
  have fc2 := KC.out.cell (j := 2) rfl
  have fza := KA.out.fz
  have fzb := KB.out.fz
  have fzc := KC.out.fz
  clear ho0 he0
  go_wp2
  refine bodyPost_ret (v := .agg #[.slice p0 x.Cells.length q0, .int .i64 x.At, .bool x.Stopped]) (by simp [results, Tryz.results85, go_sem, fb0, fb1, fb2]) rfl ⟨_, rfl, ?_, ?_⟩
  · have hh : ∀ {W : World}, Hi (w.heap.size + 1 + 1 + 1) w1 W → Ov (w.heap.size + 1 + 1 + 1) W (.agg #[.slice p0 x.Cells.length q0, .int .i64 x.At, .bool x.Stopped]) x := fun hW =>
      (Oe.mkCore (O0.out.hi hW (by omega)) r1).ov
    exact (hh ((Hi.set (Hi.set (Hi.set (Hi.set (Hi.set (Hi.set (Hi.refl _ _) (by simp <;> omega) _) (by simp <;> omega) _) (by simp <;> omega) _) (by simp <;> omega) _) (by simp <;> omega) _) (by simp <;> omega) _))).mono (by omega)
  · exact (Ext.set (Ext.set (Ext.set (Ext.set (Ext.set (Ext.set E1.out (by simp <;> omega) _) (by simp <;> omega) _) (by simp <;> omega) _) (by simp <;> omega) _) (by simp <;> omega) _) (by simp <;> omega) _)
theorem info_Core : (Tryz.prog.info? 70).map (fun i => (i.zero, i.size, i.bytes)) = some (some (.agg #[.slice none 0 0, .int .i64 0, .bool false]), 3, 40) := by kernel_rfl
theorem toCoreS (v : Value) (xs : List Core) (w : World) (h : Rs w v xs) (hn : GT.tot xs ≤ 1048576) :
   Calls Tryz.prog 46 #[v] w fun e w' => ∃ v', e = .returned v' ∧ Os w.heap.size w' v' xs ∧ Ext w w' := by
  obtain ⟨a, c, rfl, hl⟩ := h.form
  obtain ⟨i0, hi, hz0, hz1, hz2⟩ := info_parts info_Core
  have hln : xs.length ≤ 1048576 := Nat.le_trans tot_len hn
  have hmk : ∀ u : World, (Instr.makeSlice 43 (.int .i64 xs.length) (.int .i64 xs.length)).run Tryz.prog u =
      .ok (.slice (some ⟨u.heap.size, 0, none⟩) xs.length xs.length) (u.alloc (.cells (madeCells #[.slice none 0 0, .int .i64 0, .bool false] (xs.length * 3)) 70)) := fun u => by
    have h := run_make (P := Tryz.prog) u 43 70 i0 (.agg #[.slice none 0 0, .int .i64 0, .bool false]) Tryz.underlying43 hi hz0 .i64 .i64 xs.length xs.length (by omega) (Int.le_refl _) (by rw [hz2]; omega) (by omega)
    simpa [hz1, Value.cells] using h
  have H := Lib.hid h
  have HN := Lib.hid hn
  clear h hn hi hz0 hz1 hz2
  go_enter Tryz.func46, Tryz.ntmps46
  go_wp2
  go_loopw [4] (fun i wr => ∃ k : Nat, k ≤ xs.length ∧ i = .int .i64 k ∧ Os w.heap.size wr (.slice (some ⟨w.heap.size, 0, none⟩) xs.length xs.length) (xs.take k ++ List.replicate (xs.length - k) ⟨[], 0, false⟩) ∧ Ext w wr) (fun i _ => xs.length - (intOf i).toNat)
  case atStart => exact ⟨0, Nat.zero_le _, rfl, by have := Os.made (α := Core) w xs.length 70 #[.slice none 0 0, .int .i64 0, .bool false] ⟨[], 0, false⟩ rfl rfl hl; simpa [GT.sz] using this, (Ext.refl w).alloc _⟩
  case round =>
    obtain ⟨k, hk, rfl, hb, he⟩ := hrel
    have HB := Lib.hid hb
    have HE := Lib.hid he
    clear hb he
    by_cases hlt : k < xs.length
    · obtain ⟨b, o, x, a0, c0, rfl, _, hx, hc0, hc1, hc2, g1, h0, l0, HR⟩ := (H.out.ext HE.out).atCore k hlt
      clear H
      have hxn : Hid (GT.tot x ≤ 1048576) := Lib.hid (by have h1 := tot_at hx.out; have h3 := HN.out; omega)
      go_wp2_with fail
      refine (toCore _ _ _ HR.out hxn.out).mono ?_
      rintro e w1 ⟨v', rfl, ho', he'⟩
      obtain ⟨p0, q0, rfl, _r1, _h0, _l0⟩ := ho'.rv.openCore
      obtain ⟨b2, o2, cs2, F2, x0, hb2, _, hL, ⟨y0, rfl, _h0, _r1⟩, hat, hf2⟩ := (HB.out.ext he').at k (by simp; omega)
      cases hb2
      have hd0 := hat 0 _ rfl
      have hd1 := hat 1 _ rfl
      have hd2 := hat 2 _ rfl
      simp only [GT.sz, Nat.mul_one, Nat.add_zero, Nat.zero_add] at hd0 hd1 hd2
      have HB2 := Lib.hid (HB.out.put (i := k) he' (by simp; omega) HE.out.sz ho'.ow)
      have HE2 := Lib.hid (HE.out.tr he')
      clear HB HE hat he' ho'
      go_wp2
      go_roundw
      case rel =>
        refine ⟨k + 1, by omega, by go_num, ?_, (((HE2.out.set (Nat.le_refl _) _).set (Nat.le_refl _) _).set (Nat.le_refl _) _)⟩
        have := HB2.out
        rw [set_fill _ _ _ _ _ hlt (by simp; omega), ← take_snoc hx.out] at this
        simpa [putCells, GT.sz] using this
      case measure => simp [intOf]; omega
    · obtain rfl : k = xs.length := by omega
      go_wp2
      go_ret
      exact ⟨_, rfl, by simpa using HB.out, HE.out⟩
theorem toHold (v : Value) (x : Hold) (w : World) (h : Rv w v x) (hn : GT.tot x ≤ 1048576) :
   Calls Tryz.prog 86 #[v] w fun e w' => ∃ v', e = .returned v' ∧ Ov w.heap.size w' v' x ∧ Ext w w' := by
  have ht : GT.tot x = GT.tot x.Lst := rfl
  obtain ⟨a0, c0, rfl, h0, l0⟩ := h.openHold
  clear h
  have E0 := Lib.hid ((((Ext.refl w).alloc (.cells #[.slice a0 x.Lst.length c0] 127)).alloc (.cells #[.slice none 0 0] 90)).alloc (.cells #[.slice none 0 0] 90))
  have KA : Bk (((w.alloc (.cells #[.slice a0 x.Lst.length c0] 127)).alloc (.cells #[.slice none 0 0] 90)).alloc (.cells #[.slice none 0 0] 90)) w.heap.size [.slice a0 x.Lst.length c0] 127 := (Bk.new _ _ _).ext (((Ext.refl _).alloc _).alloc _)
  have KB : Bk (((w.alloc (.cells #[.slice a0 x.Lst.length c0] 127)).alloc (.cells #[.slice none 0 0] 90)).alloc (.cells #[.slice none 0 0] 90)) (w.heap.size + 1) [.slice none 0 0] 90 := (Bk.new1 _ _ _ _).ext ((Ext.refl _).alloc _)
  have KC : Bk (((w.alloc (.cells #[.slice a0 x.Lst.length c0] 127)).alloc (.cells #[.slice none 0 0] 90)).alloc (.cells #[.slice none 0 0] 90)) (w.heap.size + 1 + 1) [.slice none 0 0] 90 := Bk.new2 _ _ _ _ _
  replace KA := Lib.hid KA; replace KB := Lib.hid KB; replace KC := Lib.hid KC
  go_enter Tryz.func86, Tryz.ntmps86
  go_wp2_with fail
  refine (toIntS _ _ _ (h0.out.ext (E0.out)) (by omega)).mono ?_
  rintro e w1 ⟨v0, rfl, ho0, he0⟩
  have E1 := Lib.hid (Ext.tr (E0.out) he0)
  have sz0 : w.heap.size + 1 + 1 + 1 ≤ w1.heap.size := by have := he0.sz; simpa using this
  have O0 := Lib.hid (Oe.ofS ho0 (L' := w.heap.size + 1 + 1 + 1) (by simp) sz0)
  obtain ⟨p0, q0, rfl, _⟩ := ho0.form
  replace KA := Lib.hid (Bk.ext (KA.out) he0)
  replace KB := Lib.hid (Bk.ext (KB.out) he0)
  replace KC := Lib.hid (Bk.ext (KC.out) he0)
  have fa0 := KA.out.cell (j := 0) rfl
  have fb0 := KB.out.cell (j := 0) rfl
  have fc0 := KC.out.cell (j := 0) rfl
  have fza := KA.out.fz
  have fzb := KB.out.fz
  have fzc := KC.out.fz
  clear ho0 he0
  go_wp2
  refine bodyPost_ret (v := .agg #[.slice p0 x.Lst.length q0]) (by simp [results, Tryz.results86, go_sem, fb0]) rfl ⟨_, rfl, ?_, ?_⟩
  · have hh : ∀ {W : World}, Hi (w.heap.size + 1 + 1 + 1) w1 W → Ov (w.heap.size + 1 + 1 + 1) W (.agg #[.slice p0 x.Lst.length q0]) x := fun hW =>
      (Oe.mkHold (O0.out.hi hW (by omega))).ov
    exact (hh ((Hi.set (Hi.set (Hi.refl _ _) (by simp <;> omega) _) (by simp <;> omega) _))).mono (by omega)
  · exact (Ext.set (Ext.set E1.out (by simp <;> omega) _) (by simp <;> omega) _)
theorem info_Hold : (Tryz.prog.info? 90).map (fun i => (i.zero, i.size, i.bytes)) = some (some (.agg #[.slice none 0 0]), 1, 24) := by kernel_rfl
theorem toHoldS (v : Value) (xs : List Hold) (w : World) (h : Rs w v xs) (hn : GT.tot xs ≤ 1048576) :
   Calls Tryz.prog 47 #[v] w fun e w' => ∃ v', e = .returned v' ∧ Os w.heap.size w' v' xs ∧ Ext w w' := by
  obtain ⟨a, c, rfl, hl⟩ := h.form
  obtain ⟨i0, hi, hz0, hz1, hz2⟩ := info_parts info_Hold
  have hln : xs.length ≤ 1048576 := Nat.le_trans tot_len hn
  have hmk : ∀ u : World, (Instr.makeSlice 44 (.int .i64 xs.length) (.int .i64 xs.length)).run Tryz.prog u =
      .ok (.slice (some ⟨u.heap.size, 0, none⟩) xs.length xs.length) (u.alloc (.cells (madeCells #[.slice none 0 0] (xs.length * 1)) 90)) := fun u => by
    have h := run_make (P := Tryz.prog) u 44 90 i0 (.agg #[.slice none 0 0]) Tryz.underlying44 hi hz0 .i64 .i64 xs.length xs.length (by omega) (Int.le_refl _) (by rw [hz2]; omega) (by omega)
    simpa [hz1, Value.cells] using h
  have H := Lib.hid h
  have HN := Lib.hid hn
  clear h hn hi hz0 hz1 hz2
  go_enter Tryz.func47, Tryz.ntmps47
  go_wp2
  go_loopw [4] (fun i wr => ∃ k : Nat, k ≤ xs.length ∧ i = .int .i64 k ∧ Os w.heap.size wr (.slice (some ⟨w.heap.size, 0, none⟩) xs.length xs.length) (xs.take k ++ List.replicate (xs.length - k) ⟨[]⟩) ∧ Ext w wr) (fun i _ => xs.length - (intOf i).toNat)
  case atStart => exact ⟨0, Nat.zero_le _, rfl, by have := Os.made (α := Hold) w xs.length 90 #[.slice none 0 0] ⟨[]⟩ rfl rfl hl; simpa [GT.sz] using this, (Ext.refl w).alloc _⟩
  case round =>
    obtain ⟨k, hk, rfl, hb, he⟩ := hrel
    have HB := Lib.hid hb
    have HE := Lib.hid he
    clear hb he
    by_cases hlt : k < xs.length
    · obtain ⟨b, o, x, a0, c0, rfl, _, hx, hc0, h0, l0, HR⟩ := (H.out.ext HE.out).atHold k hlt
      clear H
      have hxn : Hid (GT.tot x ≤ 1048576) := Lib.hid (by have h1 := tot_at hx.out; have h3 := HN.out; omega)
      go_wp2_with fail
      refine (toHold _ _ _ HR.out hxn.out).mono ?_
      rintro e w1 ⟨v', rfl, ho', he'⟩
      obtain ⟨p0, q0, rfl, _h0, _l0⟩ := ho'.rv.openHold
      obtain ⟨b2, o2, cs2, F2, x0, hb2, _, hL, ⟨y0, rfl, _h0⟩, hat, hf2⟩ := (HB.out.ext he').at k (by simp; omega)
      cases hb2
      have hd0 := hat 0 _ rfl
      simp only [GT.sz, Nat.mul_one, Nat.add_zero, Nat.zero_add] at hd0
      have HB2 := Lib.hid (HB.out.put (i := k) he' (by simp; omega) HE.out.sz ho'.ow)
      have HE2 := Lib.hid (HE.out.tr he')
      clear HB HE hat he' ho'
      go_wp2
      go_roundw
      case rel =>
        refine ⟨k + 1, by omega, by go_num, ?_, (HE2.out.set (Nat.le_refl _) _)⟩
        have := HB2.out
        rw [set_fill _ _ _ _ _ hlt (by simp; omega), ← take_snoc hx.out] at this
        simpa [putCells, GT.sz] using this
      case measure => simp [intOf]; omega
    · obtain rfl : k = xs.length := by omega
      go_wp2
      go_ret
      exact ⟨_, rfl, by simpa using HB.out, HE.out⟩
theorem toMachine (v : Value) (x : Machine) (w : World) (h : Rv w v x) (hn : GT.tot x ≤ 1048576) :
   Calls Tryz.prog 21 #[v] w fun e w' => ∃ v', e = .returned v' ∧ Ov w.heap.size w' v' x ∧ Ext w w' := by
  have ht : GT.tot x = GT.tot x.Plan + GT.tot x.Programs + GT.tot x.Cores + GT.tot x.Holds + GT.tot x.Tick := rfl
  obtain ⟨a0, c0, a1, c1, a2, c2, a3, c3, a4, c4, a5, c5, rfl, r6, h0, l0, h1, l1, h2, l2, h3, l3, h4, l4, h5, l5⟩ := h.openMachine
  clear h
  have E0 := Lib.hid ((((Ext.refl w).alloc (.cells #[.slice a0 x.Plan.Parts.length c0, .slice a1 x.Plan.Channels.length c1, .slice a2 x.Plan.Slots.length c2, .slice a3 x.Programs.length c3, .slice a4 x.Cores.length c4, .slice a5 x.Holds.length c5, .int .i64 x.Tick] 31)).alloc (.cells #[.slice none 0 0, .slice none 0 0, .slice none 0 0, .slice none 0 0, .slice none 0 0, .slice none 0 0, .int .i64 0] 46)).alloc (.cells #[.slice none 0 0, .slice none 0 0, .slice none 0 0, .slice none 0 0, .slice none 0 0, .slice none 0 0, .int .i64 0] 46))
  have KA : Bk (((w.alloc (.cells #[.slice a0 x.Plan.Parts.length c0, .slice a1 x.Plan.Channels.length c1, .slice a2 x.Plan.Slots.length c2, .slice a3 x.Programs.length c3, .slice a4 x.Cores.length c4, .slice a5 x.Holds.length c5, .int .i64 x.Tick] 31)).alloc (.cells #[.slice none 0 0, .slice none 0 0, .slice none 0 0, .slice none 0 0, .slice none 0 0, .slice none 0 0, .int .i64 0] 46)).alloc (.cells #[.slice none 0 0, .slice none 0 0, .slice none 0 0, .slice none 0 0, .slice none 0 0, .slice none 0 0, .int .i64 0] 46)) w.heap.size [.slice a0 x.Plan.Parts.length c0, .slice a1 x.Plan.Channels.length c1, .slice a2 x.Plan.Slots.length c2, .slice a3 x.Programs.length c3, .slice a4 x.Cores.length c4, .slice a5 x.Holds.length c5, .int .i64 x.Tick] 31 := (Bk.new _ _ _).ext (((Ext.refl _).alloc _).alloc _)
  have KB : Bk (((w.alloc (.cells #[.slice a0 x.Plan.Parts.length c0, .slice a1 x.Plan.Channels.length c1, .slice a2 x.Plan.Slots.length c2, .slice a3 x.Programs.length c3, .slice a4 x.Cores.length c4, .slice a5 x.Holds.length c5, .int .i64 x.Tick] 31)).alloc (.cells #[.slice none 0 0, .slice none 0 0, .slice none 0 0, .slice none 0 0, .slice none 0 0, .slice none 0 0, .int .i64 0] 46)).alloc (.cells #[.slice none 0 0, .slice none 0 0, .slice none 0 0, .slice none 0 0, .slice none 0 0, .slice none 0 0, .int .i64 0] 46)) (w.heap.size + 1) [.slice none 0 0, .slice none 0 0, .slice none 0 0, .slice none 0 0, .slice none 0 0, .slice none 0 0, .int .i64 0] 46 := (Bk.new1 _ _ _ _).ext ((Ext.refl _).alloc _)
  have KC : Bk (((w.alloc (.cells #[.slice a0 x.Plan.Parts.length c0, .slice a1 x.Plan.Channels.length c1, .slice a2 x.Plan.Slots.length c2, .slice a3 x.Programs.length c3, .slice a4 x.Cores.length c4, .slice a5 x.Holds.length c5, .int .i64 x.Tick] 31)).alloc (.cells #[.slice none 0 0, .slice none 0 0, .slice none 0 0, .slice none 0 0, .slice none 0 0, .slice none 0 0, .int .i64 0] 46)).alloc (.cells #[.slice none 0 0, .slice none 0 0, .slice none 0 0, .slice none 0 0, .slice none 0 0, .slice none 0 0, .int .i64 0] 46)) (w.heap.size + 1 + 1) [.slice none 0 0, .slice none 0 0, .slice none 0 0, .slice none 0 0, .slice none 0 0, .slice none 0 0, .int .i64 0] 46 := Bk.new2 _ _ _ _ _
  replace KA := Lib.hid KA; replace KB := Lib.hid KB; replace KC := Lib.hid KC
  go_enter Tryz.func21, Tryz.ntmps21
  go_wp2_with fail
  refine (toSetup _ _ _ (Rv.mkSetup (h0.out.ext (E0.out)) (h1.out.ext (E0.out)) (h2.out.ext (E0.out))) (by omega)).mono ?_
  rintro e w1 ⟨v0, rfl, ho0, he0⟩
  have E1 := Lib.hid (Ext.tr (E0.out) he0)
  have sz0 : w.heap.size + 1 + 1 + 1 ≤ w1.heap.size := by have := he0.sz; simpa using this
  obtain ⟨p0, q0, p1, q1, p2, q2, rfl, _, _, _, _, _, _⟩ := ho0.rv.openSetup
  have O0 := Lib.hid (Oe.ofV ho0 (L' := w.heap.size + 1 + 1 + 1) (by simp) sz0)
  replace KA := Lib.hid (Bk.ext (KA.out) he0)
  replace KB := Lib.hid (Bk.ext (KB.out) he0)
  replace KC := Lib.hid (Bk.ext (KC.out) he0)
  have fa0 := KA.out.cell (j := 0) rfl
  have fa1 := KA.out.cell (j := 1) rfl
  have fa2 := KA.out.cell (j := 2) rfl
  have fa3 := KA.out.cell (j := 3) rfl
  have fa4 := KA.out.cell (j := 4) rfl
  have fa5 := KA.out.cell (j := 5) rfl
  have fa6 := KA.out.cell (j := 6) rfl
  have fb0 := KB.out.cell (j := 0) rfl
  have fb1 := KB.out.cell (j := 1) rfl
  have fb2 := KB.out.cell (j := 2) rfl
  have fb3 := KB.out.cell (j := 3) rfl
  have fb4 := KB.out.cell (j := 4) rfl
  have fb5 := KB.out.cell (j := 5) rfl
  have fb6 := KB.out.cell (j := 6) rfl
  have fc0 := KC.out.cell (j := 0) rfl
  have fc1 := KC.out.cell (j := 1) rfl
  have fc2 := KC.out.cell (j := 2) rfl
  have fc3 := KC.out.cell (j := 3) rfl
  have fc4 := KC.out.cell (j := 4) rfl
  have fc5 := KC.out.cell (j := 5) rfl
  have fc6 := KC.out.cell (j := 6) rfl
  have fza := KA.out.fz
  have fzb := KB.out.fz
  have fzc := KC.out.fz
  clear ho0 he0
  go_wp2_with fail
  refine (toOrderSS _ _ _ (h3.out.ext ((Ext.set (Ext.set (Ext.set E1.out (by simp <;> omega) _) (by simp <;> omega) _) (by simp <;> omega) _))) (by omega)).mono ?_
  rintro e w2 ⟨v1, rfl, ho1, he1⟩
  have E2 := Lib.hid (Ext.tr ((Ext.set (Ext.set (Ext.set E1.out (by simp <;> omega) _) (by simp <;> omega) _) (by simp <;> omega) _)) he1)
  have sz1 : w1.heap.size ≤ w2.heap.size := by have := he1.sz; simpa using this
  have O1 := Lib.hid (Oe.ofS ho1 (L' := w1.heap.size) (by simp) sz1)
  obtain ⟨p3, q3, rfl, _⟩ := ho1.form
  replace O0 := Lib.hid ((O0.out.hi (n := w.heap.size + 1 + 1 + 1) ((Hi.set (Hi.set (Hi.set (Hi.refl _ _) (by simp <;> omega) _) (by simp <;> omega) _) (by simp <;> omega) _)) (by omega)).ext he1)
  clear fa0 fa1 fa2 fa3 fa4 fa5 fa6 fb0 fb1 fb2 fb3 fb4 fb5 fb6 fc0 fc1 fc2 fc3 fc4 fc5 fc6 fza fzb fzc
  replace KA := Lib.hid (Bk.ext ((Bk.set_ne (Bk.set_ne (Bk.set_ne KA.out (by simp <;> omega) _) (by simp <;> omega) _) (by simp <;> omega) _)) he1)
  replace KB := Lib.hid (Bk.ext ((Bk.set_ne (Bk.set_ne (Bk.set_ne KB.out (by simp <;> omega) _) (by simp <;> omega) _) (by simp <;> omega) _)) he1)
  replace KC := Lib.hid (Bk.ext ((Bk.set (Bk.set (Bk.set KC.out 0 _) 1 _) 2 _)) he1)
  have fa0 := KA.out.cell (j := 0) rfl
  have fa1 := KA.out.cell (j := 1) rfl
  have fa2 := KA.out.cell (j := 2) rfl
  have fa3 := KA.out.cell (j := 3) rfl
  have fa4 := KA.out.cell (j := 4) rfl
  have fa5 := KA.out.cell (j := 5) rfl
  have fa6 := KA.out.cell (j := 6) rfl
  have fb0 := KB.out.cell (j := 0) rfl
  have fb1 := KB.out.cell (j := 1) rfl
  have fb2 := KB.out.cell (j := 2) rfl
  have fb3 := KB.out.cell (j := 3) rfl
  have fb4 := KB.out.cell (j := 4) rfl
  have fb5 := KB.out.cell (j := 5) rfl
  have fb6 := KB.out.cell (j := 6) rfl
  have fc0 := KC.out.cell (j := 0) rfl
  have fc1 := KC.out.cell (j := 1) rfl
  have fc2 := KC.out.cell (j := 2) rfl
  have fc3 := KC.out.cell (j := 3) rfl
  have fc4 := KC.out.cell (j := 4) rfl
  have fc5 := KC.out.cell (j := 5) rfl
  have fc6 := KC.out.cell (j := 6) rfl
  have fza := KA.out.fz
  have fzb := KB.out.fz
  have fzc := KC.out.fz
  clear ho1 he1
  go_wp2_with fail
  refine (toCoreS _ _ _ (h4.out.ext ((Ext.set E2.out (by simp <;> omega) _))) (by omega)).mono ?_
  rintro e w3 ⟨v2, rfl, ho2, he2⟩
  have E3 := Lib.hid (Ext.tr ((Ext.set E2.out (by simp <;> omega) _)) he2)
  have sz2 : w2.heap.size ≤ w3.heap.size := by have := he2.sz; simpa using this
  have O2 := Lib.hid (Oe.ofS ho2 (L' := w2.heap.size) (by simp) sz2)
  obtain ⟨p4, q4, rfl, _⟩ := ho2.form
  replace O0 := Lib.hid ((O0.out.hi (n := w.heap.size + 1 + 1 + 1) ((Hi.set (Hi.refl _ _) (by simp <;> omega) _)) (by omega)).ext he2)
  replace O1 := Lib.hid ((O1.out.hi (n := w.heap.size + 1 + 1 + 1) ((Hi.set (Hi.refl _ _) (by simp <;> omega) _)) (by omega)).ext he2)
  clear fa0 fa1 fa2 fa3 fa4 fa5 fa6 fb0 fb1 fb2 fb3 fb4 fb5 fb6 fc0 fc1 fc2 fc3 fc4 fc5 fc6 fza fzb fzc
  replace KA := Lib.hid (Bk.ext ((Bk.set_ne KA.out (by simp <;> omega) _)) he2)
  replace KB := Lib.hid (Bk.ext ((Bk.set_ne KB.out (by simp <;> omega) _)) he2)
  replace KC := Lib.hid (Bk.ext ((Bk.set KC.out 3 _)) he2)
  have fa0 := KA.out.cell (j := 0) rfl
  have fa1 := KA.out.cell (j := 1) rfl
  have fa2 := KA.out.cell (j := 2) rfl
  have fa3 := KA.out.cell (j := 3) rfl
  have fa4 := KA.out.cell (j := 4) rfl
  have fa5 := KA.out.cell (j := 5) rfl
  have fa6 := KA.out.cell (j := 6) rfl
  have fb0 := KB.out.cell (j := 0) rfl
  have fb1 := KB.out.cell (j := 1) rfl
  have fb2 := KB.out.cell (j := 2) rfl
  have fb3 := KB.out.cell (j := 3) rfl
  have fb4 := KB.out.cell (j := 4) rfl
  have fb5 := KB.out.cell (j := 5) rfl
  have fb6 := KB.out.cell (j := 6) rfl
  have fc0 := KC.out.cell (j := 0) rfl
  have fc1 := KC.out.cell (j := 1) rfl
  have fc2 := KC.out.cell (j := 2) rfl
  have fc3 := KC.out.cell (j := 3) rfl
  have fc4 := KC.out.cell (j := 4) rfl
  have fc5 := KC.out.cell (j := 5) rfl
  have fc6 := KC.out.cell (j := 6) rfl
  have fza := KA.out.fz
  have fzb := KB.out.fz
  have fzc := KC.out.fz
  clear ho2 he2
  go_wp2_with fail
  refine (toHoldS _ _ _ (h5.out.ext ((Ext.set E3.out (by simp <;> omega) _))) (by omega)).mono ?_
  rintro e w4 ⟨v3, rfl, ho3, he3⟩
  have E4 := Lib.hid (Ext.tr ((Ext.set E3.out (by simp <;> omega) _)) he3)
  have sz3 : w3.heap.size ≤ w4.heap.size := by have := he3.sz; simpa using this
  have O3 := Lib.hid (Oe.ofS ho3 (L' := w3.heap.size) (by simp) sz3)
  obtain ⟨p5, q5, rfl, _⟩ := ho3.form
  replace O0 := Lib.hid ((O0.out.hi (n := w.heap.size + 1 + 1 + 1) ((Hi.set (Hi.refl _ _) (by simp <;> omega) _)) (by omega)).ext he3)
  replace O1 := Lib.hid ((O1.out.hi (n := w.heap.size + 1 + 1 + 1) ((Hi.set (Hi.refl _ _) (by simp <;> omega) _)) (by omega)).ext he3)
  replace O2 := Lib.hid ((O2.out.hi (n := w.heap.size + 1 + 1 + 1) ((Hi.set (Hi.refl _ _) (by simp <;> omega) _)) (by omega)).ext he3)
  clear fa0 fa1 fa2 fa3 fa4 fa5 fa6 fb0 fb1 fb2 fb3 fb4 fb5 fb6 fc0 fc1 fc2 fc3 fc4 fc5 fc6 fza fzb fzc
  replace KA := Lib.hid (Bk.ext ((Bk.set_ne KA.out (by simp <;> omega) _)) he3)
  replace KB := Lib.hid (Bk.ext ((Bk.set_ne KB.out (by simp <;> omega) _)) he3)
  replace KC := Lib.hid (Bk.ext ((Bk.set KC.out 4 _)) he3)
  have fa0 := KA.out.cell (j := 0) rfl
  have fa1 := KA.out.cell (j := 1) rfl
  have fa2 := KA.out.cell (j := 2) rfl
  have fa3 := KA.out.cell (j := 3) rfl
  have fa4 := KA.out.cell (j := 4) rfl
  have fa5 := KA.out.cell (j := 5) rfl
  have fa6 := KA.out.cell (j := 6) rfl
  have fb0 := KB.out.cell (j := 0) rfl
  have fb1 := KB.out.cell (j := 1) rfl
  have fb2 := KB.out.cell (j := 2) rfl
  have fb3 := KB.out.cell (j := 3) rfl
  have fb4 := KB.out.cell (j := 4) rfl
  have fb5 := KB.out.cell (j := 5) rfl
  have fb6 := KB.out.cell (j := 6) rfl
  have fc0 := KC.out.cell (j := 0) rfl
  have fc1 := KC.out.cell (j := 1) rfl
  have fc2 := KC.out.cell (j := 2) rfl
  have fc3 := KC.out.cell (j := 3) rfl
  have fc4 := KC.out.cell (j := 4) rfl
  have fc5 := KC.out.cell (j := 5) rfl
  have fc6 := KC.out.cell (j := 6) rfl
  have fza := KA.out.fz
  have fzb := KB.out.fz
  have fzc := KC.out.fz
  clear ho3 he3
  go_wp2
  refine bodyPost_ret (v := .agg #[.slice p0 x.Plan.Parts.length q0, .slice p1 x.Plan.Channels.length q1, .slice p2 x.Plan.Slots.length q2, .slice p3 x.Programs.length q3, .slice p4 x.Cores.length q4, .slice p5 x.Holds.length q5, .int .i64 x.Tick]) (by simp [results, Tryz.results21, go_sem, fb0, fb1, fb2, fb3, fb4, fb5, fb6]) rfl ⟨_, rfl, ?_, ?_⟩
  · have hh : ∀ {W : World}, Hi (w.heap.size + 1 + 1 + 1) w4 W → Ov (w.heap.size + 1 + 1 + 1) W (.agg #[.slice p0 x.Plan.Parts.length q0, .slice p1 x.Plan.Channels.length q1, .slice p2 x.Plan.Slots.length q2, .slice p3 x.Programs.length q3, .slice p4 x.Cores.length q4, .slice p5 x.Holds.length q5, .int .i64 x.Tick]) x := fun hW =>
      (Oe.mkMachine (O0.out.hi hW (by omega)) (O1.out.hi hW (by omega)) (O2.out.hi hW (by omega)) (O3.out.hi hW (by omega)) r6).ov
    exact (hh ((Hi.set (Hi.set (Hi.set (Hi.set (Hi.set (Hi.set (Hi.set (Hi.set (Hi.set (Hi.refl _ _) (by simp <;> omega) _) (by simp <;> omega) _) (by simp <;> omega) _) (by simp <;> omega) _) (by simp <;> omega) _) (by simp <;> omega) _) (by simp <;> omega) _) (by simp <;> omega) _) (by simp <;> omega) _))).mono (by omega)
  · exact (Ext.set (Ext.set (Ext.set (Ext.set (Ext.set (Ext.set (Ext.set (Ext.set (Ext.set E4.out (by simp <;> omega) _) (by simp <;> omega) _) (by simp <;> omega) _) (by simp <;> omega) _) (by simp <;> omega) _) (by simp <;> omega) _) (by simp <;> omega) _) (by simp <;> omega) _) (by simp <;> omega) _)
theorem toWatch (v : Value) (x : Watch) (w : World) (h : Rv w v x) (hn : GT.tot x ≤ 1048576) :
   Calls Tryz.prog 6 #[v] w fun e w' => ∃ v', e = .returned v' ∧ Ov w.heap.size w' v' x ∧ Ext w w' := by
  have ht : GT.tot x = GT.tot x.Box + GT.tot x.States := rfl
  obtain ⟨a0, c0, a1, c1, a2, c2, a3, c3, a4, c4, a5, c5, a7, c7, rfl, r6, h0, l0, h1, l1, h2, l2, h3, l3, h4, l4, h5, l5, h7, l7⟩ := h.openWatch
  clear h
  have E0 := Lib.hid ((((Ext.refl w).alloc (.cells #[.slice a0 x.Box.Plan.Parts.length c0, .slice a1 x.Box.Plan.Channels.length c1, .slice a2 x.Box.Plan.Slots.length c2, .slice a3 x.Box.Programs.length c3, .slice a4 x.Box.Cores.length c4, .slice a5 x.Box.Holds.length c5, .int .i64 x.Box.Tick, .slice a7 x.States.length c7] 34)).alloc (.cells #[.slice none 0 0, .slice none 0 0, .slice none 0 0, .slice none 0 0, .slice none 0 0, .slice none 0 0, .int .i64 0, .slice none 0 0] 49)).alloc (.cells #[.slice none 0 0, .slice none 0 0, .slice none 0 0, .slice none 0 0, .slice none 0 0, .slice none 0 0, .int .i64 0, .slice none 0 0] 49))
  have KA : Bk (((w.alloc (.cells #[.slice a0 x.Box.Plan.Parts.length c0, .slice a1 x.Box.Plan.Channels.length c1, .slice a2 x.Box.Plan.Slots.length c2, .slice a3 x.Box.Programs.length c3, .slice a4 x.Box.Cores.length c4, .slice a5 x.Box.Holds.length c5, .int .i64 x.Box.Tick, .slice a7 x.States.length c7] 34)).alloc (.cells #[.slice none 0 0, .slice none 0 0, .slice none 0 0, .slice none 0 0, .slice none 0 0, .slice none 0 0, .int .i64 0, .slice none 0 0] 49)).alloc (.cells #[.slice none 0 0, .slice none 0 0, .slice none 0 0, .slice none 0 0, .slice none 0 0, .slice none 0 0, .int .i64 0, .slice none 0 0] 49)) w.heap.size [.slice a0 x.Box.Plan.Parts.length c0, .slice a1 x.Box.Plan.Channels.length c1, .slice a2 x.Box.Plan.Slots.length c2, .slice a3 x.Box.Programs.length c3, .slice a4 x.Box.Cores.length c4, .slice a5 x.Box.Holds.length c5, .int .i64 x.Box.Tick, .slice a7 x.States.length c7] 34 := (Bk.new _ _ _).ext (((Ext.refl _).alloc _).alloc _)
  have KB : Bk (((w.alloc (.cells #[.slice a0 x.Box.Plan.Parts.length c0, .slice a1 x.Box.Plan.Channels.length c1, .slice a2 x.Box.Plan.Slots.length c2, .slice a3 x.Box.Programs.length c3, .slice a4 x.Box.Cores.length c4, .slice a5 x.Box.Holds.length c5, .int .i64 x.Box.Tick, .slice a7 x.States.length c7] 34)).alloc (.cells #[.slice none 0 0, .slice none 0 0, .slice none 0 0, .slice none 0 0, .slice none 0 0, .slice none 0 0, .int .i64 0, .slice none 0 0] 49)).alloc (.cells #[.slice none 0 0, .slice none 0 0, .slice none 0 0, .slice none 0 0, .slice none 0 0, .slice none 0 0, .int .i64 0, .slice none 0 0] 49)) (w.heap.size + 1) [.slice none 0 0, .slice none 0 0, .slice none 0 0, .slice none 0 0, .slice none 0 0, .slice none 0 0, .int .i64 0, .slice none 0 0] 49 := (Bk.new1 _ _ _ _).ext ((Ext.refl _).alloc _)
  have KC : Bk (((w.alloc (.cells #[.slice a0 x.Box.Plan.Parts.length c0, .slice a1 x.Box.Plan.Channels.length c1, .slice a2 x.Box.Plan.Slots.length c2, .slice a3 x.Box.Programs.length c3, .slice a4 x.Box.Cores.length c4, .slice a5 x.Box.Holds.length c5, .int .i64 x.Box.Tick, .slice a7 x.States.length c7] 34)).alloc (.cells #[.slice none 0 0, .slice none 0 0, .slice none 0 0, .slice none 0 0, .slice none 0 0, .slice none 0 0, .int .i64 0, .slice none 0 0] 49)).alloc (.cells #[.slice none 0 0, .slice none 0 0, .slice none 0 0, .slice none 0 0, .slice none 0 0, .slice none 0 0, .int .i64 0, .slice none 0 0] 49)) (w.heap.size + 1 + 1) [.slice none 0 0, .slice none 0 0, .slice none 0 0, .slice none 0 0, .slice none 0 0, .slice none 0 0, .int .i64 0, .slice none 0 0] 49 := Bk.new2 _ _ _ _ _
  replace KA := Lib.hid KA; replace KB := Lib.hid KB; replace KC := Lib.hid KC
  go_enter Tryz.func6, Tryz.ntmps6
  go_wp2_with fail
  refine (toMachine _ _ _ (Rv.mkMachine (h0.out.ext (E0.out)) (h1.out.ext (E0.out)) (h2.out.ext (E0.out)) (h3.out.ext (E0.out)) (h4.out.ext (E0.out)) (h5.out.ext (E0.out)) r6) (by omega)).mono ?_
  rintro e w1 ⟨v0, rfl, ho0, he0⟩
  have E1 := Lib.hid (Ext.tr (E0.out) he0)
  have sz0 : w.heap.size + 1 + 1 + 1 ≤ w1.heap.size := by have := he0.sz; simpa using this
  obtain ⟨p0, q0, p1, q1, p2, q2, p3, q3, p4, q4, p5, q5, rfl, _, _, _, _, _, _, _, _, _, _, _, _, _⟩ := ho0.rv.openMachine
  have O0 := Lib.hid (Oe.ofV ho0 (L' := w.heap.size + 1 + 1 + 1) (by simp) sz0)
  replace KA := Lib.hid (Bk.ext (KA.out) he0)
  replace KB := Lib.hid (Bk.ext (KB.out) he0)
  replace KC := Lib.hid (Bk.ext (KC.out) he0)
  have fa0 := KA.out.cell (j := 0) rfl
  have fa1 := KA.out.cell (j := 1) rfl
  have fa2 := KA.out.cell (j := 2) rfl
  have fa3 := KA.out.cell (j := 3) rfl
  have fa4 := KA.out.cell (j := 4) rfl
  have fa5 := KA.out.cell (j := 5) rfl
  have fa6 := KA.out.cell (j := 6) rfl
  have fa7 := KA.out.cell (j := 7) rfl
  have fb0 := KB.out.cell (j := 0) rfl
  have fb1 := KB.out.cell (j := 1) rfl
  have fb2 := KB.out.cell (j := 2) rfl
  have fb3 := KB.out.cell (j := 3) rfl
  have fb4 := KB.out.cell (j := 4) rfl
  have fb5 := KB.out.cell (j := 5) rfl
  have fb6 := KB.out.cell (j := 6) rfl
  have fb7 := KB.out.cell (j := 7) rfl
  have fc0 := KC.out.cell (j := 0) rfl
  have fc1 := KC.out.cell (j := 1) rfl
  have fc2 := KC.out.cell (j := 2) rfl
  have fc3 := KC.out.cell (j := 3) rfl
  have fc4 := KC.out.cell (j := 4) rfl
  have fc5 := KC.out.cell (j := 5) rfl
  have fc6 := KC.out.cell (j := 6) rfl
  have fc7 := KC.out.cell (j := 7) rfl
  have fza := KA.out.fz
  have fzb := KB.out.fz
  have fzc := KC.out.fz
  clear ho0 he0
  go_wp2_with fail
  refine (toHealthS _ _ _ (h7.out.ext ((Ext.set (Ext.set (Ext.set (Ext.set (Ext.set (Ext.set (Ext.set E1.out (by simp <;> omega) _) (by simp <;> omega) _) (by simp <;> omega) _) (by simp <;> omega) _) (by simp <;> omega) _) (by simp <;> omega) _) (by simp <;> omega) _))) (by omega)).mono ?_
  rintro e w2 ⟨v1, rfl, ho1, he1⟩
  have E2 := Lib.hid (Ext.tr ((Ext.set (Ext.set (Ext.set (Ext.set (Ext.set (Ext.set (Ext.set E1.out (by simp <;> omega) _) (by simp <;> omega) _) (by simp <;> omega) _) (by simp <;> omega) _) (by simp <;> omega) _) (by simp <;> omega) _) (by simp <;> omega) _)) he1)
  have sz1 : w1.heap.size ≤ w2.heap.size := by have := he1.sz; simpa using this
  have O1 := Lib.hid (Oe.ofS ho1 (L' := w1.heap.size) (by simp) sz1)
  obtain ⟨p7, q7, rfl, _⟩ := ho1.form
  replace O0 := Lib.hid ((O0.out.hi (n := w.heap.size + 1 + 1 + 1) ((Hi.set (Hi.set (Hi.set (Hi.set (Hi.set (Hi.set (Hi.set (Hi.refl _ _) (by simp <;> omega) _) (by simp <;> omega) _) (by simp <;> omega) _) (by simp <;> omega) _) (by simp <;> omega) _) (by simp <;> omega) _) (by simp <;> omega) _)) (by omega)).ext he1)
  clear fa0 fa1 fa2 fa3 fa4 fa5 fa6 fa7 fb0 fb1 fb2 fb3 fb4 fb5 fb6 fb7 fc0 fc1 fc2 fc3 fc4 fc5 fc6 fc7 fza fzb fzc
  replace KA := Lib.hid (Bk.ext ((Bk.set_ne (Bk.set_ne (Bk.set_ne (Bk.set_ne (Bk.set_ne (Bk.set_ne (Bk.set_ne KA.out (by simp <;> omega) _) (by simp <;> omega) _) (by simp <;> omega) _) (by simp <;> omega) _) (by simp <;> omega) _) (by simp <;> omega) _) (by simp <;> omega) _)) he1)
  replace KB := Lib.hid (Bk.ext ((Bk.set_ne (Bk.set_ne (Bk.set_ne (Bk.set_ne (Bk.set_ne (Bk.set_ne (Bk.set_ne KB.out (by simp <;> omega) _) (by simp <;> omega) _) (by simp <;> omega) _) (by simp <;> omega) _) (by simp <;> omega) _) (by simp <;> omega) _) (by simp <;> omega) _)) he1)
  replace KC := Lib.hid (Bk.ext ((Bk.set (Bk.set (Bk.set (Bk.set (Bk.set (Bk.set (Bk.set KC.out 0 _) 1 _) 2 _) 3 _) 4 _) 5 _) 6 _)) he1)
  have fa0 := KA.out.cell (j := 0) rfl
  have fa1 := KA.out.cell (j := 1) rfl
  have fa2 := KA.out.cell (j := 2) rfl
  have fa3 := KA.out.cell (j := 3) rfl
  have fa4 := KA.out.cell (j := 4) rfl
  have fa5 := KA.out.cell (j := 5) rfl
  have fa6 := KA.out.cell (j := 6) rfl
  have fa7 := KA.out.cell (j := 7) rfl
  have fb0 := KB.out.cell (j := 0) rfl
  have fb1 := KB.out.cell (j := 1) rfl
  have fb2 := KB.out.cell (j := 2) rfl
  have fb3 := KB.out.cell (j := 3) rfl
  have fb4 := KB.out.cell (j := 4) rfl
  have fb5 := KB.out.cell (j := 5) rfl
  have fb6 := KB.out.cell (j := 6) rfl
  have fb7 := KB.out.cell (j := 7) rfl
  have fc0 := KC.out.cell (j := 0) rfl
  have fc1 := KC.out.cell (j := 1) rfl
  have fc2 := KC.out.cell (j := 2) rfl
  have fc3 := KC.out.cell (j := 3) rfl
  have fc4 := KC.out.cell (j := 4) rfl
  have fc5 := KC.out.cell (j := 5) rfl
  have fc6 := KC.out.cell (j := 6) rfl
  have fc7 := KC.out.cell (j := 7) rfl
  have fza := KA.out.fz
  have fzb := KB.out.fz
  have fzc := KC.out.fz
  clear ho1 he1
  go_wp2
  refine bodyPost_ret (v := .agg #[.slice p0 x.Box.Plan.Parts.length q0, .slice p1 x.Box.Plan.Channels.length q1, .slice p2 x.Box.Plan.Slots.length q2, .slice p3 x.Box.Programs.length q3, .slice p4 x.Box.Cores.length q4, .slice p5 x.Box.Holds.length q5, .int .i64 x.Box.Tick, .slice p7 x.States.length q7]) (by simp [results, Tryz.results6, go_sem, fb0, fb1, fb2, fb3, fb4, fb5, fb6, fb7]) rfl ⟨_, rfl, ?_, ?_⟩
  · have hh : ∀ {W : World}, Hi (w.heap.size + 1 + 1 + 1) w2 W → Ov (w.heap.size + 1 + 1 + 1) W (.agg #[.slice p0 x.Box.Plan.Parts.length q0, .slice p1 x.Box.Plan.Channels.length q1, .slice p2 x.Box.Plan.Slots.length q2, .slice p3 x.Box.Programs.length q3, .slice p4 x.Box.Cores.length q4, .slice p5 x.Box.Holds.length q5, .int .i64 x.Box.Tick, .slice p7 x.States.length q7]) x := fun hW =>
      (Oe.mkWatch (O0.out.hi hW (by omega)) (O1.out.hi hW (by omega))).ov
    exact (hh ((Hi.set (Hi.set (Hi.set (Hi.set (Hi.set (Hi.set (Hi.set (Hi.set (Hi.set (Hi.refl _ _) (by simp <;> omega) _) (by simp <;> omega) _) (by simp <;> omega) _) (by simp <;> omega) _) (by simp <;> omega) _) (by simp <;> omega) _) (by simp <;> omega) _) (by simp <;> omega) _) (by simp <;> omega) _))).mono (by omega)
  · exact (Ext.set (Ext.set (Ext.set (Ext.set (Ext.set (Ext.set (Ext.set (Ext.set (Ext.set E2.out (by simp <;> omega) _) (by simp <;> omega) _) (by simp <;> omega) _) (by simp <;> omega) _) (by simp <;> omega) _) (by simp <;> omega) _) (by simp <;> omega) _) (by simp <;> omega) _) (by simp <;> omega) _)
end Sk
