/- Contracts of functions of the given program, and lemmas for them: each theorem states the condition under which it holds. -/
import Derived.Test.YtlejdkiihpeojaaGreatChecked
import Derived.Test.YtlejdkiihpeojaaGreatNums
import Derived.Test.YtlejdkiihpeojaaGreatMk
namespace Sk
open Go Go.Proofs Go.RowKit
set_option maxHeartbeats 400000
set_option maxRecDepth 100000
set_option linter.unusedVariables false
set_option linter.unusedSimpArgs false
theorem toWindow (v : Value) (x : Window) (w : World) (h : Rv w v x) :
   Calls Tryz.prog 191 #[v] w fun e w' => ∃ v', e = .returned v' ∧ Ov w.heap.size w' v' x ∧ Ext w w' := by
  obtain ⟨rfl, r0, r1⟩ := h.openWindow
  clear h
  go_enter Tryz.func191, Tryz.ntmps191
  go_wp2
  refine bodyPost_ret (v := .agg #[.int .i64 x.Base, .int .i64 x.Size, .bool x.Write]) (by simp [results, Tryz.results191, go_sem]) rfl ⟨_, rfl, ⟨_, [], rfl, ⟨rfl, r0, r1, rfl⟩, Own.nil _ _⟩, ?_⟩
  repeat (first | exact Ext.refl _ | refine Ext.alloc ?_ _)
theorem toChannel (v : Value) (x : Channel) (w : World) (h : Rv w v x) :
   Calls Tryz.prog 135 #[v] w fun e w' => ∃ v', e = .returned v' ∧ Ov w.heap.size w' v' x ∧ Ext w w' := by
  obtain ⟨rfl, r0, r1, r2, r3⟩ := h.openChannel
  clear h
  go_enter Tryz.func135, Tryz.ntmps135
  go_wp2
  refine bodyPost_ret (v := .agg #[.int .i64 x.Kind, .int .i64 x.From, .int .i64 x.To, .int .i64 x.Size]) (by simp [results, Tryz.results135, go_sem]) rfl ⟨_, rfl, ⟨_, [], rfl, ⟨rfl, r0, r1, r2, r3, rfl⟩, Own.nil _ _⟩, ?_⟩
  repeat (first | exact Ext.refl _ | refine Ext.alloc ?_ _)
theorem toSlot (v : Value) (x : Slot) (w : World) (h : Rv w v x) :
   Calls Tryz.prog 136 #[v] w fun e w' => ∃ v', e = .returned v' ∧ Ov w.heap.size w' v' x ∧ Ext w w' := by
  obtain ⟨rfl, r0, r1⟩ := h.openSlot
  clear h
  go_enter Tryz.func136, Tryz.ntmps136
  go_wp2
  refine bodyPost_ret (v := .agg #[.int .i64 x.Who, .int .i64 x.Ticks]) (by simp [results, Tryz.results136, go_sem]) rfl ⟨_, rfl, ⟨_, [], rfl, ⟨rfl, r0, r1, rfl⟩, Own.nil _ _⟩, ?_⟩
  repeat (first | exact Ext.refl _ | refine Ext.alloc ?_ _)
theorem toOrder (v : Value) (x : Order) (w : World) (h : Rv w v x) :
   Calls Tryz.prog 137 #[v] w fun e w' => ∃ v', e = .returned v' ∧ Ov w.heap.size w' v' x ∧ Ext w w' := by
  obtain ⟨rfl, r0, r1, r2⟩ := h.openOrder
  clear h
  go_enter Tryz.func137, Tryz.ntmps137
  go_wp2
  refine bodyPost_ret (v := .agg #[.int .i64 x.Op, .int .i64 x.A, .int .i64 x.B]) (by simp [results, Tryz.results137, go_sem]) rfl ⟨_, rfl, ⟨_, [], rfl, ⟨rfl, r0, r1, r2, rfl⟩, Own.nil _ _⟩, ?_⟩
  repeat (first | exact Ext.refl _ | refine Ext.alloc ?_ _)
theorem info_Int : (Tryz.prog.info? 3).map (fun i => (i.zero, i.size, i.bytes)) = some (some (.int .i64 0), 1, 8) := by kernel_rfl
theorem toIntS (v : Value) (xs : List Int) (w : World) (h : Rs w v xs) (hn : GT.tot xs ≤ 1048576) :
   Calls Tryz.prog 138 #[v] w fun e w' => ∃ v', e = .returned v' ∧ Os w.heap.size w' v' xs ∧ Ext w w' := by
  obtain ⟨a, c, rfl, hl⟩ := h.form
  obtain ⟨i0, hi, hz0, hz1, hz2⟩ := info_parts info_Int
  have hln : xs.length ≤ 1048576 := Nat.le_trans tot_len hn
  have hmk : ∀ u : World, (Instr.makeSlice 52 (.int .i64 xs.length) (.int .i64 xs.length)).run Tryz.prog u =
      .ok (.slice (some ⟨u.heap.size, 0, none⟩) xs.length xs.length) (u.alloc (.cells (madeCells #[.int .i64 0] (xs.length * 1)) 3)) := fun u => by
    have h := run_make (P := Tryz.prog) u 52 3 i0 (.int .i64 0) Tryz.underlying52 hi hz0 .i64 .i64 xs.length xs.length (by omega) (Int.le_refl _) (by rw [hz2]; omega) (by omega)
    simpa [hz1, Value.cells] using h
  have H := Lib.hid h
  have HN := Lib.hid hn
  clear h hn hi hz0 hz1 hz2
  go_enter Tryz.func138, Tryz.ntmps138
  go_wp2
  go_loopw [4] (fun i wr => ∃ k : Nat, k ≤ xs.length ∧ i = .int .i64 k ∧ Os w.heap.size wr (.slice (some ⟨w.heap.size, 0, none⟩) xs.length xs.length) (xs.take k ++ List.replicate (xs.length - k) 0) ∧ Ext w wr) (fun i _ => xs.length - (intOf i).toNat)
  case atStart => exact ⟨0, Nat.zero_le _, rfl, by have := Os.made (α := Int) w xs.length 3 #[.int .i64 0] 0 rfl rfl hl; simpa [GT.sz] using this, (Ext.refl w).alloc _⟩
  case round =>
    obtain ⟨k, hk, rfl, hb, he⟩ := hrel
    have HB := Lib.hid hb
    have HE := Lib.hid he
    clear hb he
    by_cases hlt : k < xs.length
    · obtain ⟨b, o, x, rfl, _, hx, hc0, g0⟩ := (H.out.ext HE.out).atInt k hlt
      clear H
      obtain ⟨b2, o2, cs2, F2, x0, hb2, _, hL, ⟨rfl, _, _⟩, hat, hf2⟩ := HB.out.at k (by simp; omega)
      cases hb2
      have hd0 := hat 0 _ rfl
      simp only [GT.sz, Nat.mul_one, Nat.add_zero, Nat.zero_add] at hd0
      have HB2 := Lib.hid (HB.out.put (i := k) (Ext.refl _) (by simp; omega) HE.out.sz (⟨[], ⟨rfl, g0, rfl⟩, Own.nil _ _⟩ : Ow wr.heap.size _ _ x))
      have HE2 := Lib.hid HE.out
      clear HB HE hat
      go_wp2
      go_roundw
      case rel =>
        refine ⟨k + 1, by omega, by go_num, ?_, (HE2.out.set (Nat.le_refl _) _)⟩
        have := HB2.out
        rw [set_fill _ _ _ _ _ hlt (by simp; omega), ← take_snoc hx.out] at this
        simpa [putCells, GT.sz] using this
      case measure => simp [intOf]; omega
    · obtain rfl : k = xs.length := by omega
      go_wp2
      go_ret
      exact ⟨_, rfl, by simpa using HB.out, HE.out⟩
theorem info_Bool : (Tryz.prog.info? 4).map (fun i => (i.zero, i.size, i.bytes)) = some (some (.bool false), 1, 1) := by kernel_rfl
theorem info_Window : (Tryz.prog.info? 180).map (fun i => (i.zero, i.size, i.bytes)) = some (some (.agg #[.int .i64 0, .int .i64 0, .bool false]), 3, 24) := by kernel_rfl
theorem toWindowS (v : Value) (xs : List Window) (w : World) (h : Rs w v xs) (hn : GT.tot xs ≤ 1048576) :
   Calls Tryz.prog 171 #[v] w fun e w' => ∃ v', e = .returned v' ∧ Os w.heap.size w' v' xs ∧ Ext w w' := by
  obtain ⟨a, c, rfl, hl⟩ := h.form
  obtain ⟨i0, hi, hz0, hz1, hz2⟩ := info_parts info_Window
  have hln : xs.length ≤ 1048576 := Nat.le_trans tot_len hn
  have hmk : ∀ u : World, (Instr.makeSlice 72 (.int .i64 xs.length) (.int .i64 xs.length)).run Tryz.prog u =
      .ok (.slice (some ⟨u.heap.size, 0, none⟩) xs.length xs.length) (u.alloc (.cells (madeCells #[.int .i64 0, .int .i64 0, .bool false] (xs.length * 3)) 180)) := fun u => by
    have h := run_make (P := Tryz.prog) u 72 180 i0 (.agg #[.int .i64 0, .int .i64 0, .bool false]) Tryz.underlying72 hi hz0 .i64 .i64 xs.length xs.length (by omega) (Int.le_refl _) (by rw [hz2]; omega) (by omega)
    simpa [hz1, Value.cells] using h
  have H := Lib.hid h
  have HN := Lib.hid hn
  clear h hn hi hz0 hz1 hz2
  go_enter Tryz.func171, Tryz.ntmps171
  go_wp2
  go_loopw [4] (fun i wr => ∃ k : Nat, k ≤ xs.length ∧ i = .int .i64 k ∧ Os w.heap.size wr (.slice (some ⟨w.heap.size, 0, none⟩) xs.length xs.length) (xs.take k ++ List.replicate (xs.length - k) ⟨0, 0, false⟩) ∧ Ext w wr) (fun i _ => xs.length - (intOf i).toNat)
  case atStart => exact ⟨0, Nat.zero_le _, rfl, by have := Os.made (α := Window) w xs.length 180 #[.int .i64 0, .int .i64 0, .bool false] ⟨0, 0, false⟩ rfl rfl hl; simpa [GT.sz] using this, (Ext.refl w).alloc _⟩
  case round =>
    obtain ⟨k, hk, rfl, hb, he⟩ := hrel
    have HB := Lib.hid hb
    have HE := Lib.hid he
    clear hb he
    by_cases hlt : k < xs.length
    · obtain ⟨b, o, x, rfl, _, hx, hc0, hc1, hc2, g0, g1, HR⟩ := (H.out.ext HE.out).atWindow k hlt
      clear H
      go_wp2_with fail
      refine (toWindow _ _ _ HR.out).mono ?_
      rintro e w1 ⟨v', rfl, ho', he'⟩
      obtain ⟨rfl, _r0, _r1⟩ := ho'.rv.openWindow
      obtain ⟨b2, o2, cs2, F2, x0, hb2, _, hL, ⟨rfl, _r0, _r1, rfl⟩, hat, hf2⟩ := (HB.out.ext he').at k (by simp; omega)
      cases hb2
      have hd0 := hat 0 _ rfl
      have hd1 := hat 1 _ rfl
      have hd2 := hat 2 _ rfl
      simp only [GT.sz, Nat.mul_one, Nat.add_zero, Nat.zero_add] at hd0 hd1 hd2
      have HB2 := Lib.hid (HB.out.put (i := k) he' (by simp; omega) HE.out.sz ho'.ow)
      have HE2 := Lib.hid (HE.out.tr he')
      clear HB HE hat he' ho'
      go_wp2
      go_roundw
      case rel =>
        refine ⟨k + 1, by omega, by go_num, ?_, (((HE2.out.set (Nat.le_refl _) _).set (Nat.le_refl _) _).set (Nat.le_refl _) _)⟩
        have := HB2.out
        rw [set_fill _ _ _ _ _ hlt (by simp; omega), ← take_snoc hx.out] at this
        simpa [putCells, GT.sz] using this
      case measure => simp [intOf]; omega
    · obtain rfl : k = xs.length := by omega
      go_wp2
      go_ret
      exact ⟨_, rfl, by simpa using HB.out, HE.out⟩
theorem info_Channel : (Tryz.prog.info? 77).map (fun i => (i.zero, i.size, i.bytes)) = some (some (.agg #[.int .i64 0, .int .i64 0, .int .i64 0, .int .i64 0]), 4, 32) := by kernel_rfl
theorem toChannelS (v : Value) (xs : List Channel) (w : World) (h : Rs w v xs) (hn : GT.tot xs ≤ 1048576) :
   Calls Tryz.prog 88 #[v] w fun e w' => ∃ v', e = .returned v' ∧ Os w.heap.size w' v' xs ∧ Ext w w' := by
  obtain ⟨a, c, rfl, hl⟩ := h.form
  obtain ⟨i0, hi, hz0, hz1, hz2⟩ := info_parts info_Channel
  have hln : xs.length ≤ 1048576 := Nat.le_trans tot_len hn
  have hmk : ∀ u : World, (Instr.makeSlice 34 (.int .i64 xs.length) (.int .i64 xs.length)).run Tryz.prog u =
      .ok (.slice (some ⟨u.heap.size, 0, none⟩) xs.length xs.length) (u.alloc (.cells (madeCells #[.int .i64 0, .int .i64 0, .int .i64 0, .int .i64 0] (xs.length * 4)) 77)) := fun u => by
    have h := run_make (P := Tryz.prog) u 34 77 i0 (.agg #[.int .i64 0, .int .i64 0, .int .i64 0, .int .i64 0]) Tryz.underlying34 hi hz0 .i64 .i64 xs.length xs.length (by omega) (Int.le_refl _) (by rw [hz2]; omega) (by omega)
    simpa [hz1, Value.cells] using h
  have H := Lib.hid h
  have HN := Lib.hid hn
  clear h hn hi hz0 hz1 hz2
  go_enter Tryz.func88, Tryz.ntmps88
  go_wp2
  go_loopw [4] (fun i wr => ∃ k : Nat, k ≤ xs.length ∧ i = .int .i64 k ∧ Os w.heap.size wr (.slice (some ⟨w.heap.size, 0, none⟩) xs.length xs.length) (xs.take k ++ List.replicate (xs.length - k) ⟨0, 0, 0, 0⟩) ∧ Ext w wr) (fun i _ => xs.length - (intOf i).toNat)
  case atStart => exact ⟨0, Nat.zero_le _, rfl, by have := Os.made (α := Channel) w xs.length 77 #[.int .i64 0, .int .i64 0, .int .i64 0, .int .i64 0] ⟨0, 0, 0, 0⟩ rfl rfl hl; simpa [GT.sz] using this, (Ext.refl w).alloc _⟩
  case round =>
    obtain ⟨k, hk, rfl, hb, he⟩ := hrel
    have HB := Lib.hid hb
    have HE := Lib.hid he
    clear hb he
    by_cases hlt : k < xs.length
    · obtain ⟨b, o, x, rfl, _, hx, hc0, hc1, hc2, hc3, g0, g1, g2, g3, HR⟩ := (H.out.ext HE.out).atChannel k hlt
      clear H
      go_wp2_with fail
      refine (toChannel _ _ _ HR.out).mono ?_
      rintro e w1 ⟨v', rfl, ho', he'⟩
      obtain ⟨rfl, _r0, _r1, _r2, _r3⟩ := ho'.rv.openChannel
      obtain ⟨b2, o2, cs2, F2, x0, hb2, _, hL, ⟨rfl, _r0, _r1, _r2, _r3, rfl⟩, hat, hf2⟩ := (HB.out.ext he').at k (by simp; omega)
      cases hb2
      have hd0 := hat 0 _ rfl
      have hd1 := hat 1 _ rfl
      have hd2 := hat 2 _ rfl
      have hd3 := hat 3 _ rfl
      simp only [GT.sz, Nat.mul_one, Nat.add_zero, Nat.zero_add] at hd0 hd1 hd2 hd3
      have HB2 := Lib.hid (HB.out.put (i := k) he' (by simp; omega) HE.out.sz ho'.ow)
      have HE2 := Lib.hid (HE.out.tr he')
      clear HB HE hat he' ho'
      go_wp2
      go_roundw
      case rel =>
        refine ⟨k + 1, by omega, by go_num, ?_, ((((HE2.out.set (Nat.le_refl _) _).set (Nat.le_refl _) _).set (Nat.le_refl _) _).set (Nat.le_refl _) _)⟩
        have := HB2.out
        rw [set_fill _ _ _ _ _ hlt (by simp; omega), ← take_snoc hx.out] at this
        simpa [putCells, GT.sz] using this
      case measure => simp [intOf]; omega
    · obtain rfl : k = xs.length := by omega
      go_wp2
      go_ret
      exact ⟨_, rfl, by simpa using HB.out, HE.out⟩
theorem info_Slot : (Tryz.prog.info? 125).map (fun i => (i.zero, i.size, i.bytes)) = some (some (.agg #[.int .i64 0, .int .i64 0]), 2, 16) := by kernel_rfl
theorem toSlotS (v : Value) (xs : List Slot) (w : World) (h : Rs w v xs) (hn : GT.tot xs ≤ 1048576) :
   Calls Tryz.prog 89 #[v] w fun e w' => ∃ v', e = .returned v' ∧ Os w.heap.size w' v' xs ∧ Ext w w' := by
  obtain ⟨a, c, rfl, hl⟩ := h.form
  obtain ⟨i0, hi, hz0, hz1, hz2⟩ := info_parts info_Slot
  have hln : xs.length ≤ 1048576 := Nat.le_trans tot_len hn
  have hmk : ∀ u : World, (Instr.makeSlice 35 (.int .i64 xs.length) (.int .i64 xs.length)).run Tryz.prog u =
      .ok (.slice (some ⟨u.heap.size, 0, none⟩) xs.length xs.length) (u.alloc (.cells (madeCells #[.int .i64 0, .int .i64 0] (xs.length * 2)) 125)) := fun u => by
    have h := run_make (P := Tryz.prog) u 35 125 i0 (.agg #[.int .i64 0, .int .i64 0]) Tryz.underlying35 hi hz0 .i64 .i64 xs.length xs.length (by omega) (Int.le_refl _) (by rw [hz2]; omega) (by omega)
    simpa [hz1, Value.cells] using h
  have H := Lib.hid h
  have HN := Lib.hid hn
  clear h hn hi hz0 hz1 hz2
  go_enter Tryz.func89, Tryz.ntmps89
  go_wp2
  go_loopw [4] (fun i wr => ∃ k : Nat, k ≤ xs.length ∧ i = .int .i64 k ∧ Os w.heap.size wr (.slice (some ⟨w.heap.size, 0, none⟩) xs.length xs.length) (xs.take k ++ List.replicate (xs.length - k) ⟨0, 0⟩) ∧ Ext w wr) (fun i _ => xs.length - (intOf i).toNat)
  case atStart => exact ⟨0, Nat.zero_le _, rfl, by have := Os.made (α := Slot) w xs.length 125 #[.int .i64 0, .int .i64 0] ⟨0, 0⟩ rfl rfl hl; simpa [GT.sz] using this, (Ext.refl w).alloc _⟩
  case round =>
    obtain ⟨k, hk, rfl, hb, he⟩ := hrel
    have HB := Lib.hid hb
    have HE := Lib.hid he
    clear hb he
    by_cases hlt : k < xs.length
    · obtain ⟨b, o, x, rfl, _, hx, hc0, hc1, g0, g1, HR⟩ := (H.out.ext HE.out).atSlot k hlt
      clear H
      go_wp2_with fail
      refine (toSlot _ _ _ HR.out).mono ?_
      rintro e w1 ⟨v', rfl, ho', he'⟩
      obtain ⟨rfl, _r0, _r1⟩ := ho'.rv.openSlot
      obtain ⟨b2, o2, cs2, F2, x0, hb2, _, hL, ⟨rfl, _r0, _r1, rfl⟩, hat, hf2⟩ := (HB.out.ext he').at k (by simp; omega)
      cases hb2
      have hd0 := hat 0 _ rfl
      have hd1 := hat 1 _ rfl
      simp only [GT.sz, Nat.mul_one, Nat.add_zero, Nat.zero_add] at hd0 hd1
      have HB2 := Lib.hid (HB.out.put (i := k) he' (by simp; omega) HE.out.sz ho'.ow)
      have HE2 := Lib.hid (HE.out.tr he')
      clear HB HE hat he' ho'
      go_wp2
      go_roundw
      case rel =>
        refine ⟨k + 1, by omega, by go_num, ?_, ((HE2.out.set (Nat.le_refl _) _).set (Nat.le_refl _) _)⟩
        have := HB2.out
        rw [set_fill _ _ _ _ _ hlt (by simp; omega), ← take_snoc hx.out] at this
        simpa [putCells, GT.sz] using this
      case measure => simp [intOf]; omega
    · obtain rfl : k = xs.length := by omega
      go_wp2
      go_ret
      exact ⟨_, rfl, by simpa using HB.out, HE.out⟩
theorem info_Order : (Tryz.prog.info? 68).map (fun i => (i.zero, i.size, i.bytes)) = some (some (.agg #[.int .i64 0, .int .i64 0, .int .i64 0]), 3, 24) := by kernel_rfl
theorem toOrderS (v : Value) (xs : List Order) (w : World) (h : Rs w v xs) (hn : GT.tot xs ≤ 1048576) :
   Calls Tryz.prog 90 #[v] w fun e w' => ∃ v', e = .returned v' ∧ Os w.heap.size w' v' xs ∧ Ext w w' := by
  obtain ⟨a, c, rfl, hl⟩ := h.form
  obtain ⟨i0, hi, hz0, hz1, hz2⟩ := info_parts info_Order
  have hln : xs.length ≤ 1048576 := Nat.le_trans tot_len hn
  have hmk : ∀ u : World, (Instr.makeSlice 71 (.int .i64 xs.length) (.int .i64 xs.length)).run Tryz.prog u =
      .ok (.slice (some ⟨u.heap.size, 0, none⟩) xs.length xs.length) (u.alloc (.cells (madeCells #[.int .i64 0, .int .i64 0, .int .i64 0] (xs.length * 3)) 68)) := fun u => by
    have h := run_make (P := Tryz.prog) u 71 68 i0 (.agg #[.int .i64 0, .int .i64 0, .int .i64 0]) Tryz.underlying71 hi hz0 .i64 .i64 xs.length xs.length (by omega) (Int.le_refl _) (by rw [hz2]; omega) (by omega)
    simpa [hz1, Value.cells] using h
  have H := Lib.hid h
  have HN := Lib.hid hn
  clear h hn hi hz0 hz1 hz2
  go_enter Tryz.func90, Tryz.ntmps90
  go_wp2
  go_loopw [4] (fun i wr => ∃ k : Nat, k ≤ xs.length ∧ i = .int .i64 k ∧ Os w.heap.size wr (.slice (some ⟨w.heap.size, 0, none⟩) xs.length xs.length) (xs.take k ++ List.replicate (xs.length - k) ⟨0, 0, 0⟩) ∧ Ext w wr) (fun i _ => xs.length - (intOf i).toNat)
  case atStart => exact ⟨0, Nat.zero_le _, rfl, by have := Os.made (α := Order) w xs.length 68 #[.int .i64 0, .int .i64 0, .int .i64 0] ⟨0, 0, 0⟩ rfl rfl hl; simpa [GT.sz] using this, (Ext.refl w).alloc _⟩
  case round =>
    obtain ⟨k, hk, rfl, hb, he⟩ := hrel
    have HB := Lib.hid hb
    have HE := Lib.hid he
    clear hb he
    by_cases hlt : k < xs.length
    · obtain ⟨b, o, x, rfl, _, hx, hc0, hc1, hc2, g0, g1, g2, HR⟩ := (H.out.ext HE.out).atOrder k hlt
      clear H
      go_wp2_with fail
      refine (toOrder _ _ _ HR.out).mono ?_
      rintro e w1 ⟨v', rfl, ho', he'⟩
      obtain ⟨rfl, _r0, _r1, _r2⟩ := ho'.rv.openOrder
      obtain ⟨b2, o2, cs2, F2, x0, hb2, _, hL, ⟨rfl, _r0, _r1, _r2, rfl⟩, hat, hf2⟩ := (HB.out.ext he').at k (by simp; omega)
      cases hb2
      have hd0 := hat 0 _ rfl
      have hd1 := hat 1 _ rfl
      have hd2 := hat 2 _ rfl
      simp only [GT.sz, Nat.mul_one, Nat.add_zero, Nat.zero_add] at hd0 hd1 hd2
      have HB2 := Lib.hid (HB.out.put (i := k) he' (by simp; omega) HE.out.sz ho'.ow)
      have HE2 := Lib.hid (HE.out.tr he')
      clear HB HE hat he' ho'
      go_wp2
      go_roundw
      case rel =>
        refine ⟨k + 1, by omega, by go_num, ?_, (((HE2.out.set (Nat.le_refl _) _).set (Nat.le_refl _) _).set (Nat.le_refl _) _)⟩
        have := HB2.out
        rw [set_fill _ _ _ _ _ hlt (by simp; omega), ← take_snoc hx.out] at this
        simpa [putCells, GT.sz] using this
      case measure => simp [intOf]; omega
    · obtain rfl : k = xs.length := by omega
      go_wp2
      go_ret
      exact ⟨_, rfl, by simpa using HB.out, HE.out⟩
theorem info_OrderS : (Tryz.prog.info? 71).map (fun i => (i.zero, i.size, i.bytes)) = some (some (.slice none 0 0), 1, 24) := by kernel_rfl
theorem toOrderSS (v : Value) (xs : List (List Order)) (w : World) (h : Rs w v xs) (hn : GT.tot xs ≤ 1048576) :
   Calls Tryz.prog 41 #[v] w fun e w' => ∃ v', e = .returned v' ∧ Os w.heap.size w' v' xs ∧ Ext w w' := by
  obtain ⟨a, c, rfl, hl⟩ := h.form
  obtain ⟨i0, hi, hz0, hz1, hz2⟩ := info_parts info_OrderS
  have hln : xs.length ≤ 1048576 := Nat.le_trans tot_len hn
  have hmk : ∀ u : World, (Instr.makeSlice 38 (.int .i64 xs.length) (.int .i64 xs.length)).run Tryz.prog u =
      .ok (.slice (some ⟨u.heap.size, 0, none⟩) xs.length xs.length) (u.alloc (.cells (madeCells #[.slice none 0 0] (xs.length * 1)) 71)) := fun u => by
    have h := run_make (P := Tryz.prog) u 38 71 i0 (.slice none 0 0) Tryz.underlying38 hi hz0 .i64 .i64 xs.length xs.length (by omega) (Int.le_refl _) (by rw [hz2]; omega) (by omega)
    simpa [hz1, Value.cells] using h
  have H := Lib.hid h
  have HN := Lib.hid hn
  clear h hn hi hz0 hz1 hz2
  go_enter Tryz.func41, Tryz.ntmps41
  go_wp2
  go_loopw [4] (fun i wr => ∃ k : Nat, k ≤ xs.length ∧ i = .int .i64 k ∧ Os w.heap.size wr (.slice (some ⟨w.heap.size, 0, none⟩) xs.length xs.length) (xs.take k ++ List.replicate (xs.length - k) []) ∧ Ext w wr) (fun i _ => xs.length - (intOf i).toNat)
  case atStart => exact ⟨0, Nat.zero_le _, rfl, by have := Os.made (α := List Order) w xs.length 71 #[.slice none 0 0] [] rfl rfl hl; simpa [GT.sz] using this, (Ext.refl w).alloc _⟩
  case round =>
    obtain ⟨k, hk, rfl, hb, he⟩ := hrel
    have HB := Lib.hid hb
    have HE := Lib.hid he
    clear hb he
    by_cases hlt : k < xs.length
    · obtain ⟨b, o, x, a', c', rfl, _, hx, hc0, HR, hl'⟩ := (H.out.ext HE.out).atList k hlt
      clear H
      have hxn : Hid (GT.tot x ≤ 1048576) := Lib.hid (by have h1 := tot_at hx.out; have h3 := HN.out; omega)
      go_wp2_with fail
      refine (toOrderS _ _ _ HR.out hxn.out).mono ?_
      rintro e w1 ⟨v', rfl, ho', he'⟩
      obtain ⟨av, cv, rfl, hlv⟩ := ho'.form
      obtain ⟨b2, o2, cs2, F2, x0, hb2, _, hL, ⟨v0, rfl, _⟩, hat, hf2⟩ := (HB.out.ext he').at k (by simp; omega)
      cases hb2
      have hd0 := hat 0 _ rfl
      simp only [GT.sz, Nat.mul_one, Nat.add_zero, Nat.zero_add] at hd0
      have HB2 := Lib.hid (HB.out.put (i := k) he' (by simp; omega) HE.out.sz ho'.ow)
      have HE2 := Lib.hid (HE.out.tr he')
      clear HB HE hat he' ho'
      go_wp2
      go_roundw
      case rel =>
        refine ⟨k + 1, by omega, by go_num, ?_, (HE2.out.set (Nat.le_refl _) _)⟩
        have := HB2.out
        rw [set_fill _ _ _ _ _ hlt (by simp; omega), ← take_snoc hx.out] at this
        simpa [putCells, GT.sz] using this
      case measure => simp [intOf]; omega
    · obtain rfl : k = xs.length := by omega
      go_wp2
      go_ret
      exact ⟨_, rfl, by simpa using HB.out, HE.out⟩
theorem toPart (v : Value) (x : Part) (w : World) (h : Rv w v x) (hn : GT.tot x ≤ 1048576) :
   Calls Tryz.prog 134 #[v] w fun e w' => ∃ v', e = .returned v' ∧ Ov w.heap.size w' v' x ∧ Ext w w' := by
  have ht : GT.tot x = GT.tot x.Windows + GT.tot x.Cells := rfl
  obtain ⟨a0, c0, rfl, r1, h0, l0⟩ := h.openPart
  clear h
  have E0 := Lib.hid ((((Ext.refl w).alloc (.cells #[.slice a0 x.Windows.length c0, .int .i64 x.Cells] 165)).alloc (.cells #[.slice none 0 0, .int .i64 0] 74)).alloc (.cells #[.slice none 0 0, .int .i64 0] 74))
  have KA : Bk (((w.alloc (.cells #[.slice a0 x.Windows.length c0, .int .i64 x.Cells] 165)).alloc (.cells #[.slice none 0 0, .int .i64 0] 74)).alloc (.cells #[.slice none 0 0, .int .i64 0] 74)) w.heap.size [.slice a0 x.Windows.length c0, .int .i64 x.Cells] 165 := (Bk.new _ _ _).ext (((Ext.refl _).alloc _).alloc _)
  have KB : Bk (((w.alloc (.cells #[.slice a0 x.Windows.length c0, .int .i64 x.Cells] 165)).alloc (.cells #[.slice none 0 0, .int .i64 0] 74)).alloc (.cells #[.slice none 0 0, .int .i64 0] 74)) (w.heap.size + 1) [.slice none 0 0, .int .i64 0] 74 := (Bk.new1 _ _ _ _).ext ((Ext.refl _).alloc _)
  have KC : Bk (((w.alloc (.cells #[.slice a0 x.Windows.length c0, .int .i64 x.Cells] 165)).alloc (.cells #[.slice none 0 0, .int .i64 0] 74)).alloc (.cells #[.slice none 0 0, .int .i64 0] 74)) (w.heap.size + 1 + 1) [.slice none 0 0, .int .i64 0] 74 := Bk.new2 _ _ _ _ _
  replace KA := Lib.hid KA; replace KB := Lib.hid KB; replace KC := Lib.hid KC
  go_enter Tryz.func134, Tryz.ntmps134
  go_wp2_with fail
  refine (toWindowS _ _ _ (h0.out.ext (E0.out)) (by omega)).mono ?_
  rintro e w1 ⟨v0, rfl, ho0, he0⟩
  have E1 := Lib.hid (Ext.tr (E0.out) he0)
  have sz0 : w.heap.size + 1 + 1 + 1 ≤ w1.heap.size := by have := he0.sz; simpa using this
  have O0 := Lib.hid (Oe.ofS ho0 (L' := w.heap.size + 1 + 1 + 1) (by simp) sz0)
  obtain ⟨p0, q0, rfl, _⟩ := ho0.form
  replace KA := Lib.hid (Bk.ext (KA.out) he0)
  replace KB := Lib.hid (Bk.ext (KB.out) he0)
  replace KC := Lib.hid (Bk.ext (KC.out) he0)
  have fa0 := KA.out.cell (j := 0) rfl
  have fa1 := KA.out.cell (j := 1) rfl
  have fb0 := KB.out.cell (j := 0) rfl
  have fb1 := KB.out.cell (j := 1) rfl
  have fc0 := KC.out.cell (j := 0) rfl
  have fc1 := KC.out.cell (j := 1) rfl
  have fza := KA.out.fz
  have fzb := KB.out.fz
  have fzc := KC.out.fz
  clear ho0 he0
  go_wp2
  refine bodyPost_ret (v := .agg #[.slice p0 x.Windows.length q0, .int .i64 x.Cells]) (by simp [results, Tryz.results134, go_sem, fb0, fb1]) rfl ⟨_, rfl, ?_, ?_⟩
  · have hh : ∀ {W : World}, Hi (w.heap.size + 1 + 1 + 1) w1 W → Ov (w.heap.size + 1 + 1 + 1) W (.agg #[.slice p0 x.Windows.length q0, .int .i64 x.Cells]) x := fun hW =>
      (Oe.mkPart (O0.out.hi hW (by omega)) r1).ov
    exact (hh ((Hi.set (Hi.set (Hi.set (Hi.set (Hi.refl _ _) (by simp <;> omega) _) (by simp <;> omega) _) (by simp <;> omega) _) (by simp <;> omega) _))).mono (by omega)
  · exact (Ext.set (Ext.set (Ext.set (Ext.set E1.out (by simp <;> omega) _) (by simp <;> omega) _) (by simp <;> omega) _) (by simp <;> omega) _)
theorem info_Part : (Tryz.prog.info? 74).map (fun i => (i.zero, i.size, i.bytes)) = some (some (.agg #[.slice none 0 0, .int .i64 0]), 2, 32) := by kernel_rfl
theorem toPartS (v : Value) (xs : List Part) (w : World) (h : Rs w v xs) (hn : GT.tot xs ≤ 1048576) :
   Calls Tryz.prog 87 #[v] w fun e w' => ∃ v', e = .returned v' ∧ Os w.heap.size w' v' xs ∧ Ext w w' := by
  obtain ⟨a, c, rfl, hl⟩ := h.form
  obtain ⟨i0, hi, hz0, hz1, hz2⟩ := info_parts info_Part
  have hln : xs.length ≤ 1048576 := Nat.le_trans tot_len hn
  have hmk : ∀ u : World, (Instr.makeSlice 33 (.int .i64 xs.length) (.int .i64 xs.length)).run Tryz.prog u =
      .ok (.slice (some ⟨u.heap.size, 0, none⟩) xs.length xs.length) (u.alloc (.cells (madeCells #[.slice none 0 0, .int .i64 0] (xs.length * 2)) 74)) := fun u => by
    have h := run_make (P := Tryz.prog) u 33 74 i0 (.agg #[.slice none 0 0, .int .i64 0]) Tryz.underlying33 hi hz0 .i64 .i64 xs.length xs.length (by omega) (Int.le_refl _) (by rw [hz2]; omega) (by omega)
    simpa [hz1, Value.cells] using h
  have H := Lib.hid h
  have HN := Lib.hid hn
  clear h hn hi hz0 hz1 hz2
  go_enter Tryz.func87, Tryz.ntmps87
  go_wp2
  go_loopw [4] (fun i wr => ∃ k : Nat, k ≤ xs.length ∧ i = .int .i64 k ∧ Os w.heap.size wr (.slice (some ⟨w.heap.size, 0, none⟩) xs.length xs.length) (xs.take k ++ List.replicate (xs.length - k) ⟨[], 0⟩) ∧ Ext w wr) (fun i _ => xs.length - (intOf i).toNat)
  case atStart => exact ⟨0, Nat.zero_le _, rfl, by have := Os.made (α := Part) w xs.length 74 #[.slice none 0 0, .int .i64 0] ⟨[], 0⟩ rfl rfl hl; simpa [GT.sz] using this, (Ext.refl w).alloc _⟩
  case round =>
    obtain ⟨k, hk, rfl, hb, he⟩ := hrel
    have HB := Lib.hid hb
    have HE := Lib.hid he
    clear hb he
    by_cases hlt : k < xs.length
    · obtain ⟨b, o, x, a0, c0, rfl, _, hx, hc0, hc1, g1, h0, l0, HR⟩ := (H.out.ext HE.out).atPart k hlt
      clear H
      have hxn : Hid (GT.tot x ≤ 1048576) := Lib.hid (by have h1 := tot_at hx.out; have h3 := HN.out; omega)
      go_wp2_with fail
      refine (toPart _ _ _ HR.out hxn.out).mono ?_
      rintro e w1 ⟨v', rfl, ho', he'⟩
      obtain ⟨p0, q0, rfl, _r1, _h0, _l0⟩ := ho'.rv.openPart
      obtain ⟨b2, o2, cs2, F2, x0, hb2, _, hL, ⟨y0, rfl, _h0, _r1⟩, hat, hf2⟩ := (HB.out.ext he').at k (by simp; omega)
      cases hb2
      have hd0 := hat 0 _ rfl
      have hd1 := hat 1 _ rfl
      simp only [GT.sz, Nat.mul_one, Nat.add_zero, Nat.zero_add] at hd0 hd1
      have HB2 := Lib.hid (HB.out.put (i := k) he' (by simp; omega) HE.out.sz ho'.ow)
      have HE2 := Lib.hid (HE.out.tr he')
      clear HB HE hat he' ho'
      go_wp2
      go_roundw
      case rel =>
        refine ⟨k + 1, by omega, by go_num, ?_, ((HE2.out.set (Nat.le_refl _) _).set (Nat.le_refl _) _)⟩
        have := HB2.out
        rw [set_fill _ _ _ _ _ hlt (by simp; omega), ← take_snoc hx.out] at this
        simpa [putCells, GT.sz] using this
      case measure => simp [intOf]; omega
    · obtain rfl : k = xs.length := by omega
      go_wp2
      go_ret
      exact ⟨_, rfl, by simpa using HB.out, HE.out⟩
theorem toSetup (v : Value) (x : Setup) (w : World) (h : Rv w v x) (hn : GT.tot x ≤ 1048576) :
   Calls Tryz.prog 40 #[v] w fun e w' => ∃ v', e = .returned v' ∧ Ov w.heap.size w' v' x ∧ Ext w w' := by
  have ht : GT.tot x = GT.tot x.Parts + GT.tot x.Channels + GT.tot x.Slots := rfl
  obtain ⟨a0, c0, a1, c1, a2, c2, rfl, h0, l0, h1, l1, h2, l2⟩ := h.openSetup
  clear h
  have E0 := Lib.hid ((((Ext.refl w).alloc (.cells #[.slice a0 x.Parts.length c0, .slice a1 x.Channels.length c1, .slice a2 x.Slots.length c2] 26)).alloc (.cells #[.slice none 0 0, .slice none 0 0, .slice none 0 0] 37)).alloc (.cells #[.slice none 0 0, .slice none 0 0, .slice none 0 0] 37))
  have KA : Bk (((w.alloc (.cells #[.slice a0 x.Parts.length c0, .slice a1 x.Channels.length c1, .slice a2 x.Slots.length c2] 26)).alloc (.cells #[.slice none 0 0, .slice none 0 0, .slice none 0 0] 37)).alloc (.cells #[.slice none 0 0, .slice none 0 0, .slice none 0 0] 37)) w.heap.size [.slice a0 x.Parts.length c0, .slice a1 x.Channels.length c1, .slice a2 x.Slots.length c2] 26 := (Bk.new _ _ _).ext (((Ext.refl _).alloc _).alloc _)
  have KB : Bk (((w.alloc (.cells #[.slice a0 x.Parts.length c0, .slice a1 x.Channels.length c1, .slice a2 x.Slots.length c2] 26)).alloc (.cells #[.slice none 0 0, .slice none 0 0, .slice none 0 0] 37)).alloc (.cells #[.slice none 0 0, .slice none 0 0, .slice none 0 0] 37)) (w.heap.size + 1) [.slice none 0 0, .slice none 0 0, .slice none 0 0] 37 := (Bk.new1 _ _ _ _).ext ((Ext.refl _).alloc _)
  have KC : Bk (((w.alloc (.cells #[.slice a0 x.Parts.length c0, .slice a1 x.Channels.length c1, .slice a2 x.Slots.length c2] 26)).alloc (.cells #[.slice none 0 0, .slice none 0 0, .slice none 0 0] 37)).alloc (.cells #[.slice none 0 0, .slice none 0 0, .slice none 0 0] 37)) (w.heap.size + 1 + 1) [.slice none 0 0, .slice none 0 0, .slice none 0 0] 37 := Bk.new2 _ _ _ _ _
  replace KA := Lib.hid KA; replace KB := Lib.hid KB; replace KC := Lib.hid KC
  go_enter Tryz.func40, Tryz.ntmps40
  go_wp2_with fail
  refine (toPartS _ _ _ (h0.out.ext (E0.out)) (by omega)).mono ?_
  rintro e w1 ⟨v0, rfl, ho0, he0⟩
  have E1 := Lib.hid (Ext.tr (E0.out) he0)
  have sz0 : w.heap.size + 1 + 1 + 1 ≤ w1.heap.size := by have := he0.sz; simpa using this
  have O0 := Lib.hid (Oe.ofS ho0 (L' := w.heap.size + 1 + 1 + 1) (by simp) sz0)
  obtain ⟨p0, q0, rfl, _⟩ := ho0.form
  replace KA := Lib.hid (Bk.ext (KA.out) he0)
  replace KB := Lib.hid (Bk.ext (KB.out) he0)
  replace KC := Lib.hid (Bk.ext (KC.out) he0)
  have fa0 := KA.out.cell (j := 0) rfl
  have fa1 := KA.out.cell (j := 1) rfl
  have fa2 := KA.out.cell (j := 2) rfl
  have fb0 := KB.out.cell (j := 0) rfl
  have fb1 := KB.out.cell (j := 1) rfl
  have fb2 := KB.out.cell (j := 2) rfl
  have fc0 := KC.out.cell (j := 0) rfl
  have fc1 := KC.out.cell (j := 1) rfl
  have fc2 := KC.out.cell (j := 2) rfl
  have fza := KA.out.fz
  have fzb := KB.out.fz
  have fzc := KC.out.fz
  clear ho0 he0
  go_wp2_with fail
  refine (toChannelS _ _ _ (h1.out.ext ((Ext.set E1.out (by simp <;> omega) _))) (by omega)).mono ?_
  rintro e w2 ⟨v1, rfl, ho1, he1⟩
  have E2 := Lib.hid (Ext.tr ((Ext.set E1.out (by simp <;> omega) _)) he1)
  have sz1 : w1.heap.size ≤ w2.heap.size := by have := he1.sz; simpa using this
  have O1 := Lib.hid (Oe.ofS ho1 (L' := w1.heap.size) (by simp) sz1)
  obtain ⟨p1, q1, rfl, _⟩ := ho1.form
  replace O0 := Lib.hid ((O0.out.hi (n := w.heap.size + 1 + 1 + 1) ((Hi.set (Hi.refl _ _) (by simp <;> omega) _)) (by omega)).ext he1)
  clear fa0 fa1 fa2 fb0 fb1 fb2 fc0 fc1 fc2 fza fzb fzc
  replace KA := Lib.hid (Bk.ext ((Bk.set_ne KA.out (by simp <;> omega) _)) he1)
  replace KB := Lib.hid (Bk.ext ((Bk.set_ne KB.out (by simp <;> omega) _)) he1)
  replace KC := Lib.hid (Bk.ext ((Bk.set KC.out 0 _)) he1)
  have fa0 := KA.out.cell (j := 0) rfl
  have fa1 := KA.out.cell (j := 1) rfl
  have fa2 := KA.out.cell (j := 2) rfl
  have fb0 := KB.out.cell (j := 0) rfl
  have fb1 := KB.out.cell (j := 1) rfl
  have fb2 := KB.out.cell (j := 2) rfl
  have fc0 := KC.out.cell (j := 0) rfl
  have fc1 := KC.out.cell (j := 1) rfl
  have fc2 := KC.out.cell (j := 2) rfl
  have fza := KA.out.fz
  have fzb := KB.out.fz
  have fzc := KC.out.fz
  clear ho1 he1
  go_wp2_with fail
  refine (toSlotS _ _ _ (h2.out.ext ((Ext.set E2.out (by simp <;> omega) _))) (by omega)).mono ?_
  rintro e w3 ⟨v2, rfl, ho2, he2⟩
  have E3 := Lib.hid (Ext.tr ((Ext.set E2.out (by simp <;> omega) _)) he2)
  have sz2 : w2.heap.size ≤ w3.heap.size := by have := he2.sz; simpa using this
  have O2 := Lib.hid (Oe.ofS ho2 (L' := w2.heap.size) (by simp) sz2)
  obtain ⟨p2, q2, rfl, _⟩ := ho2.form
  replace O0 := Lib.hid ((O0.out.hi (n := w.heap.size + 1 + 1 + 1) ((Hi.set (Hi.refl _ _) (by simp <;> omega) _)) (by omega)).ext he2)
  replace O1 := Lib.hid ((O1.out.hi (n := w.heap.size + 1 + 1 + 1) ((Hi.set (Hi.refl _ _) (by simp <;> omega) _)) (by omega)).ext he2)
  clear fa0 fa1 fa2 fb0 fb1 fb2 fc0 fc1 fc2 fza fzb fzc
  replace KA := Lib.hid (Bk.ext ((Bk.set_ne KA.out (by simp <;> omega) _)) he2)
  replace KB := Lib.hid (Bk.ext ((Bk.set_ne KB.out (by simp <;> omega) _)) he2)
  replace KC := Lib.hid (Bk.ext ((Bk.set KC.out 1 _)) he2)
  have fa0 := KA.out.cell (j := 0) rfl
  have fa1 := KA.out.cell (j := 1) rfl
  have fa2 := KA.out.cell (j := 2) rfl
  have fb0 := KB.out.cell (j := 0) rfl
  have fb1 := KB.out.cell (j := 1) rfl
  have fb2 := KB.out.cell (j := 2) rfl
  have fc0 := KC.out.cell (j := 0) rfl
  have fc1 := KC.out.cell (j := 1) rfl
  have fc2 := KC.out.cell (j := 2) rfl
  have fza := KA.out.fz
  have fzb := KB.out.fz
  have fzc := KC.out.fz
  clear ho2 he2
  go_wp2
  refine bodyPost_ret (v := .agg #[.slice p0 x.Parts.length q0, .slice p1 x.Channels.length q1, .slice p2 x.Slots.length q2]) (by simp [results, Tryz.results40, go_sem, fb0, fb1, fb2]) rfl ⟨_, rfl, ?_, ?_⟩
  · have hh : ∀ {W : World}, Hi (w.heap.size + 1 + 1 + 1) w3 W → Ov (w.heap.size + 1 + 1 + 1) W (.agg #[.slice p0 x.Parts.length q0, .slice p1 x.Channels.length q1, .slice p2 x.Slots.length q2]) x := fun hW =>
      (Oe.mkSetup (O0.out.hi hW (by omega)) (O1.out.hi hW (by omega)) (O2.out.hi hW (by omega))).ov
    exact (hh ((Hi.set (Hi.set (Hi.set (Hi.set (Hi.refl _ _) (by simp <;> omega) _) (by simp <;> omega) _) (by simp <;> omega) _) (by simp <;> omega) _))).mono (by omega)
  · exact (Ext.set (Ext.set (Ext.set (Ext.set E3.out (by simp <;> omega) _) (by simp <;> omega) _) (by simp <;> omega) _) (by simp <;> omega) _)
theorem toCore (v : Value) (x : Core) (w : World) (h : Rv w v x) (hn : GT.tot x ≤ 1048576) :
   Calls Tryz.prog 91 #[v] w fun e w' => ∃ v', e = .returned v' ∧ Ov w.heap.size w' v' x ∧ Ext w w' := by
  have ht : GT.tot x = GT.tot x.Cells + GT.tot x.At + GT.tot x.Stopped := rfl
  obtain ⟨a0, c0, rfl, r1, h0, l0⟩ := h.openCore
  clear h
  have E0 := Lib.hid ((((Ext.refl w).alloc (.cells #[.slice a0 x.Cells.length c0, .int .i64 x.At, .bool x.Stopped] 115)).alloc (.cells #[.slice none 0 0, .int .i64 0, .bool false] 66)).alloc (.cells #[.slice none 0 0, .int .i64 0, .bool false] 66))
  have KA : Bk (((w.alloc (.cells #[.slice a0 x.Cells.length c0, .int .i64 x.At, .bool x.Stopped] 115)).alloc (.cells #[.slice none 0 0, .int .i64 0, .bool false] 66)).alloc (.cells #[.slice none 0 0, .int .i64 0, .bool false] 66)) w.heap.size [.slice a0 x.Cells.length c0, .int .i64 x.At, .bool x.Stopped] 115 := (Bk.new _ _ _).ext (((Ext.refl _).alloc _).alloc _)
  have KB : Bk (((w.alloc (.cells #[.slice a0 x.Cells.length c0, .int .i64 x.At, .bool x.Stopped] 115)).alloc (.cells #[.slice none 0 0, .int .i64 0, .bool false] 66)).alloc (.cells #[.slice none 0 0, .int .i64 0, .bool false] 66)) (w.heap.size + 1) [.slice none 0 0, .int .i64 0, .bool false] 66 := (Bk.new1 _ _ _ _).ext ((Ext.refl _).alloc _)
  have KC : Bk (((w.alloc (.cells #[.slice a0 x.Cells.length c0, .int .i64 x.At, .bool x.Stopped] 115)).alloc (.cells #[.slice none 0 0, .int .i64 0, .bool false] 66)).alloc (.cells #[.slice none 0 0, .int .i64 0, .bool false] 66)) (w.heap.size + 1 + 1) [.slice none 0 0, .int .i64 0, .bool false] 66 := Bk.new2 _ _ _ _ _
  replace KA := Lib.hid KA; replace KB := Lib.hid KB; replace KC := Lib.hid KC
  go_enter Tryz.func91, Tryz.ntmps91
  go_wp2_with fail
  refine (toIntS _ _ _ (h0.out.ext (E0.out)) (by omega)).mono ?_
  rintro e w1 ⟨v0, rfl, ho0, he0⟩
  have E1 := Lib.hid (Ext.tr (E0.out) he0)
  have sz0 : w.heap.size + 1 + 1 + 1 ≤ w1.heap.size := by have := he0.sz; simpa using this
  have O0 := Lib.hid (Oe.ofS ho0 (L' := w.heap.size + 1 + 1 + 1) (by simp) sz0)
  obtain ⟨p0, q0, rfl, _⟩ := ho0.form
  replace KA := Lib.hid (Bk.ext (KA.out) he0)
  replace KB := Lib.hid (Bk.ext (KB.out) he0)
  replace KC := Lib.hid (Bk.ext (KC.out) he0)
  have fa0 := KA.out.cell (j := 0) rfl
  have fa1 := KA.out.cell (j := 1) rfl
  have fa2 := KA.out.cell (j := 2) rfl
  have fb0 := KB.out.cell (j := 0) rfl
  have fb1 := KB.out.cell (j := 1) rfl
  have fb2 := KB.out.cell (j := 2) rfl
  have fc0 := KC.out.cell (j := 0) rfl
  have fc1 := KC.out.cell (j := 1) rfl
  have fc2 := KC.out.cell (j := 2) rfl
  have fza := KA.out.fz
  have fzb := KB.out.fz
  have fzc := KC.out.fz
  clear ho0 he0
  go_wp2
  refine bodyPost_ret (v := .agg #[.slice p0 x.Cells.length q0, .int .i64 x.At, .bool x.Stopped]) (by simp [results, Tryz.results91, go_sem, fb0, fb1, fb2]) rfl ⟨_, rfl, ?_, ?_⟩
  · have hh : ∀ {W : World}, Hi (w.heap.size + 1 + 1 + 1) w1 W → Ov (w.heap.size + 1 + 1 + 1) W (.agg #[.slice p0 x.Cells.length q0, .int .i64 x.At, .bool x.Stopped]) x := fun hW =>
      (Oe.mkCore (O0.out.hi hW (by omega)) r1).ov
    exact (hh ((Hi.set (Hi.set (Hi.set (Hi.set (Hi.set (Hi.set (Hi.refl _ _) (by simp <;> omega) _) (by simp <;> omega) _) (by simp <;> omega) _) (by simp <;> omega) _) (by simp <;> omega) _) (by simp <;> omega) _))).mono (by omega)
  · exact (Ext.set (Ext.set (Ext.set (Ext.set (Ext.set (Ext.set E1.out (by simp <;> omega) _) (by simp <;> omega) _) (by simp <;> omega) _) (by simp <;> omega) _) (by simp <;> omega) _) (by simp <;> omega) _)
theorem info_Core : (Tryz.prog.info? 66).map (fun i => (i.zero, i.size, i.bytes)) = some (some (.agg #[.slice none 0 0, .int .i64 0, .bool false]), 3, 40) := by kernel_rfl
theorem toCoreS (v : Value) (xs : List Core) (w : World) (h : Rs w v xs) (hn : GT.tot xs ≤ 1048576) :
   Calls Tryz.prog 42 #[v] w fun e w' => ∃ v', e = .returned v' ∧ Os w.heap.size w' v' xs ∧ Ext w w' := by
  obtain ⟨a, c, rfl, hl⟩ := h.form
  obtain ⟨i0, hi, hz0, hz1, hz2⟩ := info_parts info_Core
  have hln : xs.length ≤ 1048576 := Nat.le_trans tot_len hn
  have hmk : ∀ u : World, (Instr.makeSlice 39 (.int .i64 xs.length) (.int .i64 xs.length)).run Tryz.prog u =
      .ok (.slice (some ⟨u.heap.size, 0, none⟩) xs.length xs.length) (u.alloc (.cells (madeCells #[.slice none 0 0, .int .i64 0, .bool false] (xs.length * 3)) 66)) := fun u => by
    have h := run_make (P := Tryz.prog) u 39 66 i0 (.agg #[.slice none 0 0, .int .i64 0, .bool false]) Tryz.underlying39 hi hz0 .i64 .i64 xs.length xs.length (by omega) (Int.le_refl _) (by rw [hz2]; omega) (by omega)
    simpa [hz1, Value.cells] using h
  have H := Lib.hid h
  have HN := Lib.hid hn
  clear h hn hi hz0 hz1 hz2
  go_enter Tryz.func42, Tryz.ntmps42
  go_wp2
  go_loopw [4] (fun i wr => ∃ k : Nat, k ≤ xs.length ∧ i = .int .i64 k ∧ Os w.heap.size wr (.slice (some ⟨w.heap.size, 0, none⟩) xs.length xs.length) (xs.take k ++ List.replicate (xs.length - k) ⟨[], 0, false⟩) ∧ Ext w wr) (fun i _ => xs.length - (intOf i).toNat)
  case atStart => exact ⟨0, Nat.zero_le _, rfl, by have := Os.made (α := Core) w xs.length 66 #[.slice none 0 0, .int .i64 0, .bool false] ⟨[], 0, false⟩ rfl rfl hl; simpa [GT.sz] using this, (Ext.refl w).alloc _⟩
  case round =>
    obtain ⟨k, hk, rfl, hb, he⟩ := hrel
    have HB := Lib.hid hb
    have HE := Lib.hid he
    clear hb he
    by_cases hlt : k < xs.length
    · obtain ⟨b, o, x, a0, c0, rfl, _, hx, hc0, hc1, hc2, g1, h0, l0, HR⟩ := (H.out.ext HE.out).atCore k hlt
      clear H
      have hxn : Hid (GT.tot x ≤ 1048576) := Lib.hid (by have h1 := tot_at hx.out; have h3 := HN.out; omega)
      go_wp2_with fail
      refine (toCore _ _ _ HR.out hxn.out).mono ?_
      rintro e w1 ⟨v', rfl, ho', he'⟩
      obtain ⟨p0, q0, rfl, _r1, _h0, _l0⟩ := ho'.rv.openCore
      obtain ⟨b2, o2, cs2, F2, x0, hb2, _, hL, ⟨y0, rfl, _h0, _r1⟩, hat, hf2⟩ := (HB.out.ext he').at k (by simp; omega)
      cases hb2
      have hd0 := hat 0 _ rfl
      have hd1 := hat 1 _ rfl
      have hd2 := hat 2 _ rfl
      simp only [GT.sz, Nat.mul_one, Nat.add_zero, Nat.zero_add] at hd0 hd1 hd2
      have HB2 := Lib.hid (HB.out.put (i := k) he' (by simp; omega) HE.out.sz ho'.ow)
      have HE2 := Lib.hid (HE.out.tr he')
      clear HB HE hat he' ho'
      go_wp2
      go_roundw
      case rel =>
        refine ⟨k + 1, by omega, by go_num, ?_, (((HE2.out.set (Nat.le_refl _) _).set (Nat.le_refl _) _).set (Nat.le_refl _) _)⟩
        have := HB2.out
        rw [set_fill _ _ _ _ _ hlt (by simp; omega), ← take_snoc hx.out] at this
        simpa [putCells, GT.sz] using this
      case measure => simp [intOf]; omega
    · obtain rfl : k = xs.length := by omega
      go_wp2
      go_ret
      exact ⟨_, rfl, by simpa using HB.out, HE.out⟩
theorem toHold (v : Value) (x : Hold) (w : World) (h : Rv w v x) (hn : GT.tot x ≤ 1048576) :
   Calls Tryz.prog 92 #[v] w fun e w' => ∃ v', e = .returned v' ∧ Ov w.heap.size w' v' x ∧ Ext w w' := by
  have ht : GT.tot x = GT.tot x.Lst := rfl
  obtain ⟨a0, c0, rfl, h0, l0⟩ := h.openHold
  clear h
  have E0 := Lib.hid ((((Ext.refl w).alloc (.cells #[.slice a0 x.Lst.length c0] 117)).alloc (.cells #[.slice none 0 0] 79)).alloc (.cells #[.slice none 0 0] 79))
  have KA : Bk (((w.alloc (.cells #[.slice a0 x.Lst.length c0] 117)).alloc (.cells #[.slice none 0 0] 79)).alloc (.cells #[.slice none 0 0] 79)) w.heap.size [.slice a0 x.Lst.length c0] 117 := (Bk.new _ _ _).ext (((Ext.refl _).alloc _).alloc _)
  have KB : Bk (((w.alloc (.cells #[.slice a0 x.Lst.length c0] 117)).alloc (.cells #[.slice none 0 0] 79)).alloc (.cells #[.slice none 0 0] 79)) (w.heap.size + 1) [.slice none 0 0] 79 := (Bk.new1 _ _ _ _).ext ((Ext.refl _).alloc _)
  have KC : Bk (((w.alloc (.cells #[.slice a0 x.Lst.length c0] 117)).alloc (.cells #[.slice none 0 0] 79)).alloc (.cells #[.slice none 0 0] 79)) (w.heap.size + 1 + 1) [.slice none 0 0] 79 := Bk.new2 _ _ _ _ _
  replace KA := Lib.hid KA; replace KB := Lib.hid KB; replace KC := Lib.hid KC
  go_enter Tryz.func92, Tryz.ntmps92
  go_wp2_with fail
  refine (toIntS _ _ _ (h0.out.ext (E0.out)) (by omega)).mono ?_
  rintro e w1 ⟨v0, rfl, ho0, he0⟩
  have E1 := Lib.hid (Ext.tr (E0.out) he0)
  have sz0 : w.heap.size + 1 + 1 + 1 ≤ w1.heap.size := by have := he0.sz; simpa using this
  have O0 := Lib.hid (Oe.ofS ho0 (L' := w.heap.size + 1 + 1 + 1) (by simp) sz0)
  obtain ⟨p0, q0, rfl, _⟩ := ho0.form
  replace KA := Lib.hid (Bk.ext (KA.out) he0)
  replace KB := Lib.hid (Bk.ext (KB.out) he0)
  replace KC := Lib.hid (Bk.ext (KC.out) he0)
  have fa0 := KA.out.cell (j := 0) rfl
  have fb0 := KB.out.cell (j := 0) rfl
  have fc0 := KC.out.cell (j := 0) rfl
  have fza := KA.out.fz
  have fzb := KB.out.fz
  have fzc := KC.out.fz
  clear ho0 he0
  go_wp2
  refine bodyPost_ret (v := .agg #[.slice p0 x.Lst.length q0]) (by simp [results, Tryz.results92, go_sem, fb0]) rfl ⟨_, rfl, ?_, ?_⟩
  · have hh : ∀ {W : World}, Hi (w.heap.size + 1 + 1 + 1) w1 W → Ov (w.heap.size + 1 + 1 + 1) W (.agg #[.slice p0 x.Lst.length q0]) x := fun hW =>
      (Oe.mkHold (O0.out.hi hW (by omega))).ov
    exact (hh ((Hi.set (Hi.set (Hi.refl _ _) (by simp <;> omega) _) (by simp <;> omega) _))).mono (by omega)
  · exact (Ext.set (Ext.set E1.out (by simp <;> omega) _) (by simp <;> omega) _)
theorem info_Hold : (Tryz.prog.info? 79).map (fun i => (i.zero, i.size, i.bytes)) = some (some (.agg #[.slice none 0 0]), 1, 24) := by kernel_rfl
theorem toHoldS (v : Value) (xs : List Hold) (w : World) (h : Rs w v xs) (hn : GT.tot xs ≤ 1048576) :
   Calls Tryz.prog 43 #[v] w fun e w' => ∃ v', e = .returned v' ∧ Os w.heap.size w' v' xs ∧ Ext w w' := by
  obtain ⟨a, c, rfl, hl⟩ := h.form
  obtain ⟨i0, hi, hz0, hz1, hz2⟩ := info_parts info_Hold
  have hln : xs.length ≤ 1048576 := Nat.le_trans tot_len hn
  have hmk : ∀ u : World, (Instr.makeSlice 40 (.int .i64 xs.length) (.int .i64 xs.length)).run Tryz.prog u =
      .ok (.slice (some ⟨u.heap.size, 0, none⟩) xs.length xs.length) (u.alloc (.cells (madeCells #[.slice none 0 0] (xs.length * 1)) 79)) := fun u => by
    have h := run_make (P := Tryz.prog) u 40 79 i0 (.agg #[.slice none 0 0]) Tryz.underlying40 hi hz0 .i64 .i64 xs.length xs.length (by omega) (Int.le_refl _) (by rw [hz2]; omega) (by omega)
    simpa [hz1, Value.cells] using h
  have H := Lib.hid h
  have HN := Lib.hid hn
  clear h hn hi hz0 hz1 hz2
  go_enter Tryz.func43, Tryz.ntmps43
  go_wp2
  go_loopw [4] (fun i wr => ∃ k : Nat, k ≤ xs.length ∧ i = .int .i64 k ∧ Os w.heap.size wr (.slice (some ⟨w.heap.size, 0, none⟩) xs.length xs.length) (xs.take k ++ List.replicate (xs.length - k) ⟨[]⟩) ∧ Ext w wr) (fun i _ => xs.length - (intOf i).toNat)
  case atStart => exact ⟨0, Nat.zero_le _, rfl, by have := Os.made (α := Hold) w xs.length 79 #[.slice none 0 0] ⟨[]⟩ rfl rfl hl; simpa [GT.sz] using this, (Ext.refl w).alloc _⟩
  case round =>
    obtain ⟨k, hk, rfl, hb, he⟩ := hrel
    have HB := Lib.hid hb
    have HE := Lib.hid he
    clear hb he
    by_cases hlt : k < xs.length
    · obtain ⟨b, o, x, a0, c0, rfl, _, hx, hc0, h0, l0, HR⟩ := (H.out.ext HE.out).atHold k hlt
      clear H
      have hxn : Hid (GT.tot x ≤ 1048576) := Lib.hid (by have h1 := tot_at hx.out; have h3 := HN.out; omega)
      go_wp2_with fail
      refine (toHold _ _ _ HR.out hxn.out).mono ?_
      rintro e w1 ⟨v', rfl, ho', he'⟩
      obtain ⟨p0, q0, rfl, _h0, _l0⟩ := ho'.rv.openHold
      obtain ⟨b2, o2, cs2, F2, x0, hb2, _, hL, ⟨y0, rfl, _h0⟩, hat, hf2⟩ := (HB.out.ext he').at k (by simp; omega)
      cases hb2
      have hd0 := hat 0 _ rfl
      simp only [GT.sz, Nat.mul_one, Nat.add_zero, Nat.zero_add] at hd0
      have HB2 := Lib.hid (HB.out.put (i := k) he' (by simp; omega) HE.out.sz ho'.ow)
      have HE2 := Lib.hid (HE.out.tr he')
      clear HB HE hat he' ho'
      go_wp2
      go_roundw
      case rel =>
        refine ⟨k + 1, by omega, by go_num, ?_, (HE2.out.set (Nat.le_refl _) _)⟩
        have := HB2.out
        rw [set_fill _ _ _ _ _ hlt (by simp; omega), ← take_snoc hx.out] at this
        simpa [putCells, GT.sz] using this
      case measure => simp [intOf]; omega
    · obtain rfl : k = xs.length := by omega
      go_wp2
      go_ret
      exact ⟨_, rfl, by simpa using HB.out, HE.out⟩
theorem toMachine (v : Value) (x : Machine) (w : World) (h : Rv w v x) (hn : GT.tot x ≤ 1048576) :
   Calls Tryz.prog 11 #[v] w fun e w' => ∃ v', e = .returned v' ∧ Ov w.heap.size w' v' x ∧ Ext w w' := by
  have ht : GT.tot x = GT.tot x.Plan + GT.tot x.Programs + GT.tot x.Cores + GT.tot x.Holds + GT.tot x.Tick := rfl
  obtain ⟨a0, c0, a1, c1, a2, c2, a3, c3, a4, c4, a5, c5, rfl, r6, h0, l0, h1, l1, h2, l2, h3, l3, h4, l4, h5, l5⟩ := h.openMachine
  clear h
  have E0 := Lib.hid ((((Ext.refl w).alloc (.cells #[.slice a0 x.Plan.Parts.length c0, .slice a1 x.Plan.Channels.length c1, .slice a2 x.Plan.Slots.length c2, .slice a3 x.Programs.length c3, .slice a4 x.Cores.length c4, .slice a5 x.Holds.length c5, .int .i64 x.Tick] 31)).alloc (.cells #[.slice none 0 0, .slice none 0 0, .slice none 0 0, .slice none 0 0, .slice none 0 0, .slice none 0 0, .int .i64 0] 42)).alloc (.cells #[.slice none 0 0, .slice none 0 0, .slice none 0 0, .slice none 0 0, .slice none 0 0, .slice none 0 0, .int .i64 0] 42))
  have KA : Bk (((w.alloc (.cells #[.slice a0 x.Plan.Parts.length c0, .slice a1 x.Plan.Channels.length c1, .slice a2 x.Plan.Slots.length c2, .slice a3 x.Programs.length c3, .slice a4 x.Cores.length c4, .slice a5 x.Holds.length c5, .int .i64 x.Tick] 31)).alloc (.cells #[.slice none 0 0, .slice none 0 0, .slice none 0 0, .slice none 0 0, .slice none 0 0, .slice none 0 0, .int .i64 0] 42)).alloc (.cells #[.slice none 0 0, .slice none 0 0, .slice none 0 0, .slice none 0 0, .slice none 0 0, .slice none 0 0, .int .i64 0] 42)) w.heap.size [.slice a0 x.Plan.Parts.length c0, .slice a1 x.Plan.Channels.length c1, .slice a2 x.Plan.Slots.length c2, .slice a3 x.Programs.length c3, .slice a4 x.Cores.length c4, .slice a5 x.Holds.length c5, .int .i64 x.Tick] 31 := (Bk.new _ _ _).ext (((Ext.refl _).alloc _).alloc _)
  have KB : Bk (((w.alloc (.cells #[.slice a0 x.Plan.Parts.length c0, .slice a1 x.Plan.Channels.length c1, .slice a2 x.Plan.Slots.length c2, .slice a3 x.Programs.length c3, .slice a4 x.Cores.length c4, .slice a5 x.Holds.length c5, .int .i64 x.Tick] 31)).alloc (.cells #[.slice none 0 0, .slice none 0 0, .slice none 0 0, .slice none 0 0, .slice none 0 0, .slice none 0 0, .int .i64 0] 42)).alloc (.cells #[.slice none 0 0, .slice none 0 0, .slice none 0 0, .slice none 0 0, .slice none 0 0, .slice none 0 0, .int .i64 0] 42)) (w.heap.size + 1) [.slice none 0 0, .slice none 0 0, .slice none 0 0, .slice none 0 0, .slice none 0 0, .slice none 0 0, .int .i64 0] 42 := (Bk.new1 _ _ _ _).ext ((Ext.refl _).alloc _)
  have KC : Bk (((w.alloc (.cells #[.slice a0 x.Plan.Parts.length c0, .slice a1 x.Plan.Channels.length c1, .slice a2 x.Plan.Slots.length c2, .slice a3 x.Programs.length c3, .slice a4 x.Cores.length c4, .slice a5 x.Holds.length c5, .int .i64 x.Tick] 31)).alloc (.cells #[.slice none 0 0, .slice none 0 0, .slice none 0 0, .slice none 0 0, .slice none 0 0, .slice none 0 0, .int .i64 0] 42)).alloc (.cells #[.slice none 0 0, .slice none 0 0, .slice none 0 0, .slice none 0 0, .slice none 0 0, .slice none 0 0, .int .i64 0] 42)) (w.heap.size + 1 + 1) [.slice none 0 0, .slice none 0 0, .slice none 0 0, .slice none 0 0, .slice none 0 0, .slice none 0 0, .int .i64 0] 42 := Bk.new2 _ _ _ _ _
  replace KA := Lib.hid KA; replace KB := Lib.hid KB; replace KC := Lib.hid KC
  go_enter Tryz.func11, Tryz.ntmps11
  go_wp2_with fail
  refine (toSetup _ _ _ (Rv.mkSetup (h0.out.ext (E0.out)) (h1.out.ext (E0.out)) (h2.out.ext (E0.out))) (by omega)).mono ?_
  rintro e w1 ⟨v0, rfl, ho0, he0⟩
  have E1 := Lib.hid (Ext.tr (E0.out) he0)
  have sz0 : w.heap.size + 1 + 1 + 1 ≤ w1.heap.size := by have := he0.sz; simpa using this
  obtain ⟨p0, q0, p1, q1, p2, q2, rfl, _, _, _, _, _, _⟩ := ho0.rv.openSetup
  have O0 := Lib.hid (Oe.ofV ho0 (L' := w.heap.size + 1 + 1 + 1) (by simp) sz0)
  replace KA := Lib.hid (Bk.ext (KA.out) he0)
  replace KB := Lib.hid (Bk.ext (KB.out) he0)
  replace KC := Lib.hid (Bk.ext (KC.out) he0)
  have fa0 := KA.out.cell (j := 0) rfl
  have fa1 := KA.out.cell (j := 1) rfl
  have fa2 := KA.out.cell (j := 2) rfl
  have fa3 := KA.out.cell (j := 3) rfl
  have fa4 := KA.out.cell (j := 4) rfl
  have fa5 := KA.out.cell (j := 5) rfl
  have fa6 := KA.out.cell (j := 6) rfl
  have fb0 := KB.out.cell (j := 0) rfl
  have fb1 := KB.out.cell (j := 1) rfl
  have fb2 := KB.out.cell (j := 2) rfl
  have fb3 := KB.out.cell (j := 3) rfl
  have fb4 := KB.out.cell (j := 4) rfl
  have fb5 := KB.out.cell (j := 5) rfl
  have fb6 := KB.out.cell (j := 6) rfl
  have fc0 := KC.out.cell (j := 0) rfl
  have fc1 := KC.out.cell (j := 1) rfl
  have fc2 := KC.out.cell (j := 2) rfl
  have fc3 := KC.out.cell (j := 3) rfl
  have fc4 := KC.out.cell (j := 4) rfl
  have fc5 := KC.out.cell (j := 5) rfl
  have fc6 := KC.out.cell (j := 6) rfl
  have fza := KA.out.fz
  have fzb := KB.out.fz
  have fzc := KC.out.fz
  clear ho0 he0
  go_wp2_with fail
  refine (toOrderSS _ _ _ (h3.out.ext ((Ext.set (Ext.set (Ext.set E1.out (by simp <;> omega) _) (by simp <;> omega) _) (by simp <;> omega) _))) (by omega)).mono ?_
  rintro e w2 ⟨v1, rfl, ho1, he1⟩
  have E2 := Lib.hid (Ext.tr ((Ext.set (Ext.set (Ext.set E1.out (by simp <;> omega) _) (by simp <;> omega) _) (by simp <;> omega) _)) he1)
  have sz1 : w1.heap.size ≤ w2.heap.size := by have := he1.sz; simpa using this
  have O1 := Lib.hid (Oe.ofS ho1 (L' := w1.heap.size) (by simp) sz1)
  obtain ⟨p3, q3, rfl, _⟩ := ho1.form
  replace O0 := Lib.hid ((O0.out.hi (n := w.heap.size + 1 + 1 + 1) ((Hi.set (Hi.set (Hi.set (Hi.refl _ _) (by simp <;> omega) _) (by simp <;> omega) _) (by simp <;> omega) _)) (by omega)).ext he1)
  clear fa0 fa1 fa2 fa3 fa4 fa5 fa6 fb0 fb1 fb2 fb3 fb4 fb5 fb6 fc0 fc1 fc2 fc3 fc4 fc5 fc6 fza fzb fzc
  replace KA := Lib.hid (Bk.ext ((Bk.set_ne (Bk.set_ne (Bk.set_ne KA.out (by simp <;> omega) _) (by simp <;> omega) _) (by simp <;> omega) _)) he1)
  replace KB := Lib.hid (Bk.ext ((Bk.set_ne (Bk.set_ne (Bk.set_ne KB.out (by simp <;> omega) _) (by simp <;> omega) _) (by simp <;> omega) _)) he1)
  replace KC := Lib.hid (Bk.ext ((Bk.set (Bk.set (Bk.set KC.out 0 _) 1 _) 2 _)) he1)
  have fa0 := KA.out.cell (j := 0) rfl
  have fa1 := KA.out.cell (j := 1) rfl
  have fa2 := KA.out.cell (j := 2) rfl
  have fa3 := KA.out.cell (j := 3) rfl
  have fa4 := KA.out.cell (j := 4) rfl
  have fa5 := KA.out.cell (j := 5) rfl
  have fa6 := KA.out.cell (j := 6) rfl
  have fb0 := KB.out.cell (j := 0) rfl
  have fb1 := KB.out.cell (j := 1) rfl
  have fb2 := KB.out.cell (j := 2) rfl
  have fb3 := KB.out.cell (j := 3) rfl
  have fb4 := KB.out.cell (j := 4) rfl
  have fb5 := KB.out.cell (j := 5) rfl
  have fb6 := KB.out.cell (j := 6) rfl
  have fc0 := KC.out.cell (j := 0) rfl
  have fc1 := KC.out.cell (j := 1) rfl
  have fc2 := KC.out.cell (j := 2) rfl
  have fc3 := KC.out.cell (j := 3) rfl
  have fc4 := KC.out.cell (j := 4) rfl
  have fc5 := KC.out.cell (j := 5) rfl
  have fc6 := KC.out.cell (j := 6) rfl
  have fza := KA.out.fz
  have fzb := KB.out.fz
  have fzc := KC.out.fz
  clear ho1 he1
  go_wp2_with fail
  refine (toCoreS _ _ _ (h4.out.ext ((Ext.set E2.out (by simp <;> omega) _))) (by omega)).mono ?_
  rintro e w3 ⟨v2, rfl, ho2, he2⟩
  have E3 := Lib.hid (Ext.tr ((Ext.set E2.out (by simp <;> omega) _)) he2)
  have sz2 : w2.heap.size ≤ w3.heap.size := by have := he2.sz; simpa using this
  have O2 := Lib.hid (Oe.ofS ho2 (L' := w2.heap.size) (by simp) sz2)
  obtain ⟨p4, q4, rfl, _⟩ := ho2.form
  replace O0 := Lib.hid ((O0.out.hi (n := w.heap.size + 1 + 1 + 1) ((Hi.set (Hi.refl _ _) (by simp <;> omega) _)) (by omega)).ext he2)
  replace O1 := Lib.hid ((O1.out.hi (n := w.heap.size + 1 + 1 + 1) ((Hi.set (Hi.refl _ _) (by simp <;> omega) _)) (by omega)).ext he2)
  clear fa0 fa1 fa2 fa3 fa4 fa5 fa6 fb0 fb1 fb2 fb3 fb4 fb5 fb6 fc0 fc1 fc2 fc3 fc4 fc5 fc6 fza fzb fzc
  replace KA := Lib.hid (Bk.ext ((Bk.set_ne KA.out (by simp <;> omega) _)) he2)
  replace KB := Lib.hid (Bk.ext ((Bk.set_ne KB.out (by simp <;> omega) _)) he2)
  replace KC := Lib.hid (Bk.ext ((Bk.set KC.out 3 _)) he2)
  have fa0 := KA.out.cell (j := 0) rfl
  have fa1 := KA.out.cell (j := 1) rfl
  have fa2 := KA.out.cell (j := 2) rfl
  have fa3 := KA.out.cell (j := 3) rfl
  have fa4 := KA.out.cell (j := 4) rfl
  have fa5 := KA.out.cell (j := 5) rfl
  have fa6 := KA.out.cell (j := 6) rfl
  have fb0 := KB.out.cell (j := 0) rfl
  have fb1 := KB.out.cell (j := 1) rfl
  have fb2 := KB.out.cell (j := 2) rfl
  have fb3 := KB.out.cell (j := 3) rfl
  have fb4 := KB.out.cell (j := 4) rfl
  have fb5 := KB.out.cell (j := 5) rfl
  have fb6 := KB.out.cell (j := 6) rfl
  have fc0 := KC.out.cell (j := 0) rfl
  have fc1 := KC.out.cell (j := 1) rfl
  have fc2 := KC.out.cell (j := 2) rfl
  have fc3 := KC.out.cell (j := 3) rfl
  have fc4 := KC.out.cell (j := 4) rfl
  have fc5 := KC.out.cell (j := 5) rfl
  have fc6 := KC.out.cell (j := 6) rfl
  have fza := KA.out.fz
  have fzb := KB.out.fz
  have fzc := KC.out.fz
  clear ho2 he2
  go_wp2_with fail
  refine (toHoldS _ _ _ (h5.out.ext ((Ext.set E3.out (by simp <;> omega) _))) (by omega)).mono ?_
  rintro e w4 ⟨v3, rfl, ho3, he3⟩
  have E4 := Lib.hid (Ext.tr ((Ext.set E3.out (by simp <;> omega) _)) he3)
  have sz3 : w3.heap.size ≤ w4.heap.size := by have := he3.sz; simpa using this
  have O3 := Lib.hid (Oe.ofS ho3 (L' := w3.heap.size) (by simp) sz3)
  obtain ⟨p5, q5, rfl, _⟩ := ho3.form
  replace O0 := Lib.hid ((O0.out.hi (n := w.heap.size + 1 + 1 + 1) ((Hi.set (Hi.refl _ _) (by simp <;> omega) _)) (by omega)).ext he3)
  replace O1 := Lib.hid ((O1.out.hi (n := w.heap.size + 1 + 1 + 1) ((Hi.set (Hi.refl _ _) (by simp <;> omega) _)) (by omega)).ext he3)
  replace O2 := Lib.hid ((O2.out.hi (n := w.heap.size + 1 + 1 + 1) ((Hi.set (Hi.refl _ _) (by simp <;> omega) _)) (by omega)).ext he3)
  clear fa0 fa1 fa2 fa3 fa4 fa5 fa6 fb0 fb1 fb2 fb3 fb4 fb5 fb6 fc0 fc1 fc2 fc3 fc4 fc5 fc6 fza fzb fzc
  replace KA := Lib.hid (Bk.ext ((Bk.set_ne KA.out (by simp <;> omega) _)) he3)
  replace KB := Lib.hid (Bk.ext ((Bk.set_ne KB.out (by simp <;> omega) _)) he3)
  replace KC := Lib.hid (Bk.ext ((Bk.set KC.out 4 _)) he3)
  have fa0 := KA.out.cell (j := 0) rfl
  have fa1 := KA.out.cell (j := 1) rfl
  have fa2 := KA.out.cell (j := 2) rfl
  have fa3 := KA.out.cell (j := 3) rfl
  have fa4 := KA.out.cell (j := 4) rfl
  have fa5 := KA.out.cell (j := 5) rfl
  have fa6 := KA.out.cell (j := 6) rfl
  have fb0 := KB.out.cell (j := 0) rfl
  have fb1 := KB.out.cell (j := 1) rfl
  have fb2 := KB.out.cell (j := 2) rfl
  have fb3 := KB.out.cell (j := 3) rfl
  have fb4 := KB.out.cell (j := 4) rfl
  have fb5 := KB.out.cell (j := 5) rfl
  have fb6 := KB.out.cell (j := 6) rfl
  have fc0 := KC.out.cell (j := 0) rfl
  have fc1 := KC.out.cell (j := 1) rfl
  have fc2 := KC.out.cell (j := 2) rfl
  have fc3 := KC.out.cell (j := 3) rfl
  have fc4 := KC.out.cell (j := 4) rfl
  have fc5 := KC.out.cell (j := 5) rfl
  have fc6 := KC.out.cell (j := 6) rfl
  have fza := KA.out.fz
  have fzb := KB.out.fz
  have fzc := KC.out.fz
  clear ho3 he3
  go_wp2
  refine bodyPost_ret (v := .agg #[.slice p0 x.Plan.Parts.length q0, .slice p1 x.Plan.Channels.length q1, .slice p2 x.Plan.Slots.length q2, .slice p3 x.Programs.length q3, .slice p4 x.Cores.length q4, .slice p5 x.Holds.length q5, .int .i64 x.Tick]) (by simp [results, Tryz.results11, go_sem, fb0, fb1, fb2, fb3, fb4, fb5, fb6]) rfl ⟨_, rfl, ?_, ?_⟩
  · have hh : ∀ {W : World}, Hi (w.heap.size + 1 + 1 + 1) w4 W → Ov (w.heap.size + 1 + 1 + 1) W (.agg #[.slice p0 x.Plan.Parts.length q0, .slice p1 x.Plan.Channels.length q1, .slice p2 x.Plan.Slots.length q2, .slice p3 x.Programs.length q3, .slice p4 x.Cores.length q4, .slice p5 x.Holds.length q5, .int .i64 x.Tick]) x := fun hW =>
      (Oe.mkMachine (O0.out.hi hW (by omega)) (O1.out.hi hW (by omega)) (O2.out.hi hW (by omega)) (O3.out.hi hW (by omega)) r6).ov
    exact (hh ((Hi.set (Hi.set (Hi.set (Hi.set (Hi.set (Hi.set (Hi.set (Hi.set (Hi.set (Hi.refl _ _) (by simp <;> omega) _) (by simp <;> omega) _) (by simp <;> omega) _) (by simp <;> omega) _) (by simp <;> omega) _) (by simp <;> omega) _) (by simp <;> omega) _) (by simp <;> omega) _) (by simp <;> omega) _))).mono (by omega)
  · exact (Ext.set (Ext.set (Ext.set (Ext.set (Ext.set (Ext.set (Ext.set (Ext.set (Ext.set E4.out (by simp <;> omega) _) (by simp <;> omega) _) (by simp <;> omega) _) (by simp <;> omega) _) (by simp <;> omega) _) (by simp <;> omega) _) (by simp <;> omega) _) (by simp <;> omega) _) (by simp <;> omega) _)
end Sk
