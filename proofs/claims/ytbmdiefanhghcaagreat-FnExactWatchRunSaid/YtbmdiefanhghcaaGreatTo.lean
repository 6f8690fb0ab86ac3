/- Contracts of functions of the given program, each under the condition that it states. -/
import Derived.Test.YtbmdiefanhghcaaGreatChecked
import Derived.Test.YtbmdiefanhghcaaGreatChan
namespace Sk
open Go Go.Proofs Go.RowKit
set_option maxHeartbeats 400000
set_option maxRecDepth 100000
set_option linter.unusedVariables false
set_option linter.unusedSimpArgs false
theorem toWindow (v : Value) (x : Window) (w : World) (h : Rv w v x) :
  Calls Tryz.prog 257 #[v] w fun e w' => ∃ v', e = .returned v' ∧ Ov w.heap.size w' v' x ∧ Ext w w' := by
 obtain ⟨rfl, r0, r1⟩ := h.openWindow
 clear h
 go_enter Tryz.func257, Tryz.ntmps257
 go_wp2
 refine bodyPost_ret (v := .agg #[.int .i64 x.Base, .int .i64 x.Size, .bool x.Write]) (by simp [results, Tryz.results257, go_sem]) rfl ⟨_, rfl, ⟨_, [], rfl, ⟨rfl, r0, r1, rfl⟩, Own.nil _ _⟩, ?_⟩
 repeat (first | exact Ext.refl _ | refine Ext.alloc ?_ _)
theorem toChannel (v : Value) (x : Channel) (w : World) (h : Rv w v x) :
  Calls Tryz.prog 196 #[v] w fun e w' => ∃ v', e = .returned v' ∧ Ov w.heap.size w' v' x ∧ Ext w w' := by
 obtain ⟨rfl, r0, r1, r2, r3⟩ := h.openChannel
 clear h
 go_enter Tryz.func196, Tryz.ntmps196
 go_wp2
 refine bodyPost_ret (v := .agg #[.int .i64 x.Kind, .int .i64 x.From, .int .i64 x.To, .int .i64 x.Size]) (by simp [results, Tryz.results196, go_sem]) rfl ⟨_, rfl, ⟨_, [], rfl, ⟨rfl, r0, r1, r2, r3, rfl⟩, Own.nil _ _⟩, ?_⟩
 repeat (first | exact Ext.refl _ | refine Ext.alloc ?_ _)
theorem toSlot (v : Value) (x : Slot) (w : World) (h : Rv w v x) :
  Calls Tryz.prog 197 #[v] w fun e w' => ∃ v', e = .returned v' ∧ Ov w.heap.size w' v' x ∧ Ext w w' := by
 obtain ⟨rfl, r0, r1⟩ := h.openSlot
 clear h
 go_enter Tryz.func197, Tryz.ntmps197
 go_wp2
 refine bodyPost_ret (v := .agg #[.int .i64 x.Who, .int .i64 x.Ticks]) (by simp [results, Tryz.results197, go_sem]) rfl ⟨_, rfl, ⟨_, [], rfl, ⟨rfl, r0, r1, rfl⟩, Own.nil _ _⟩, ?_⟩
 repeat (first | exact Ext.refl _ | refine Ext.alloc ?_ _)
theorem toOrder (v : Value) (x : Order) (w : World) (h : Rv w v x) :
  Calls Tryz.prog 198 #[v] w fun e w' => ∃ v', e = .returned v' ∧ Ov w.heap.size w' v' x ∧ Ext w w' := by
 obtain ⟨rfl, r0, r1, r2⟩ := h.openOrder
 clear h
 go_enter Tryz.func198, Tryz.ntmps198
 go_wp2
 refine bodyPost_ret (v := .agg #[.int .i64 x.Op, .int .i64 x.A, .int .i64 x.B]) (by simp [results, Tryz.results198, go_sem]) rfl ⟨_, rfl, ⟨_, [], rfl, ⟨rfl, r0, r1, r2, rfl⟩, Own.nil _ _⟩, ?_⟩
 repeat (first | exact Ext.refl _ | refine Ext.alloc ?_ _)
theorem toHealth (v : Value) (x : Health) (w : World) (h : Rv w v x) :
  Calls Tryz.prog 79 #[v] w fun e w' => ∃ v', e = .returned v' ∧ Ov w.heap.size w' v' x ∧ Ext w w' := by
 obtain ⟨rfl, r1⟩ := h.openHealth
 clear h
 go_enter Tryz.func79, Tryz.ntmps79
 go_wp2
 refine bodyPost_ret (v := .agg #[.bool x.Frozen, .int .i64 x.Restarts]) (by simp [results, Tryz.results79, go_sem]) rfl ⟨_, rfl, ⟨_, [], rfl, ⟨rfl, r1, rfl⟩, Own.nil _ _⟩, ?_⟩
 repeat (first | exact Ext.refl _ | refine Ext.alloc ?_ _)
theorem info_Int : (Tryz.prog.info? 3).map (fun i => (i.zero, i.size, i.bytes)) = some (some (.int .i64 0), 1, 8) := by kernel_rfl
theorem toIntS (v : Value) (xs : List Int) (w : World) (h : Rs w v xs) (hn : GT.tot xs ≤ 1048576) :
  Calls Tryz.prog 11 #[v] w fun e w' => ∃ v', e = .returned v' ∧ Os w.heap.size w' v' xs ∧ Ext w w' := by
 obtain ⟨a, c, rfl, hl⟩ := h.form
 obtain ⟨i0, hi, hz0, hz1, hz2⟩ := info_parts info_Int
 have hln : xs.length ≤ 1048576 := Nat.le_trans tot_len hn
 have hmk : ∀ u : World, (Instr.makeSlice 35 (.int .i64 xs.length) (.int .i64 xs.length)).run Tryz.prog u =
   .ok (.slice (some ⟨u.heap.size, 0, none⟩) xs.length xs.length) (u.alloc (.cells (madeCells #[.int .i64 0] (xs.length * 1)) 3)) := fun u => by
  have h := run_make (P := Tryz.prog) u 35 3 i0 (.int .i64 0) Tryz.underlying35 hi hz0 .i64 .i64 xs.length xs.length (by omega) (Int.le_refl _) (by rw [hz2]; omega) (by omega)
  simpa [hz1, Value.cells] using h
 have H := zh h
 have HN := zh hn
 clear h hn hi hz0 hz1 hz2
 go_enter Tryz.func11, Tryz.ntmps11
 go_wp2
 go_loopw [4] (fun i wr => ∃ k : Nat, k ≤ xs.length ∧ i = .int .i64 k ∧ Os w.heap.size wr (.slice (some ⟨w.heap.size, 0, none⟩) xs.length xs.length) (xs.take k ++ List.replicate (xs.length - k) 0) ∧ Ext w wr) (fun i _ => xs.length - (intOf i).toNat)
 case atStart => exact ⟨0, Nat.zero_le _, rfl, by have := Os.made (α := Int) w xs.length 3 #[.int .i64 0] 0 rfl rfl hl; simpa [GT.sz] using this, (Ext.refl w).alloc _⟩
 case round =>
  obtain ⟨k, hk, rfl, hb, he⟩ := hrel
  have HB := zh hb
  have HE := zh he
  clear hb he
  by_cases hlt : k < xs.length
  ·obtain ⟨b, o, x, rfl, _, hx, hc0, g0⟩ := (H.out.ext HE.out).atInt k hlt
   clear H
   obtain ⟨b2, o2, cs2, F2, x0, hb2, _, hL, ⟨rfl, _, _⟩, hat, hf2⟩ := HB.out.at k (by simp; omega)
   cases hb2
   have hd0 := hat 0 _ rfl
   simp only [GT.sz, Nat.mul_one, Nat.add_zero, Nat.zero_add] at hd0
   have HB2 := zh (HB.out.put (i := k) (Ext.refl _) (by simp; omega) HE.out.sz (⟨[], ⟨rfl, g0, rfl⟩, Own.nil _ _⟩ : Ow wr.heap.size _ _ x))
   have HE2 := zh HE.out
   clear HB HE hat
   go_wp2
   go_roundw
   case rel =>
    refine ⟨k + 1, by omega, by go_num, ?_, (HE2.out.set (Nat.le_refl _) _)⟩
    have := HB2.out
    rw [set_fill _ _ _ _ _ hlt (by simp; omega), ← take_snoc hx.out] at this
    simpa [putCells, GT.sz] using this
   case measure => simp [intOf]; omega
  ·obtain rfl : k = xs.length := by omega
   go_wp2
   go_ret
   exact ⟨_, rfl, by simpa using HB.out, HE.out⟩
theorem info_Window : (Tryz.prog.info? 248).map (fun i => (i.zero, i.size, i.bytes)) = some (some (.agg #[.int .i64 0, .int .i64 0, .bool false]), 3, 24) := by kernel_rfl
theorem toWindowS (v : Value) (xs : List Window) (w : World) (h : Rs w v xs) (hn : GT.tot xs ≤ 1048576) :
  Calls Tryz.prog 235 #[v] w fun e w' => ∃ v', e = .returned v' ∧ Os w.heap.size w' v' xs ∧ Ext w w' := by
 obtain ⟨a, c, rfl, hl⟩ := h.form
 obtain ⟨i0, hi, hz0, hz1, hz2⟩ := info_parts info_Window
 have hln : xs.length ≤ 1048576 := Nat.le_trans tot_len hn
 have hmk : ∀ u : World, (Instr.makeSlice 145 (.int .i64 xs.length) (.int .i64 xs.length)).run Tryz.prog u =
   .ok (.slice (some ⟨u.heap.size, 0, none⟩) xs.length xs.length) (u.alloc (.cells (madeCells #[.int .i64 0, .int .i64 0, .bool false] (xs.length * 3)) 248)) := fun u => by
  have h := run_make (P := Tryz.prog) u 145 248 i0 (.agg #[.int .i64 0, .int .i64 0, .bool false]) Tryz.underlying145 hi hz0 .i64 .i64 xs.length xs.length (by omega) (Int.le_refl _) (by rw [hz2]; omega) (by omega)
  simpa [hz1, Value.cells] using h
 have H := zh h
 have HN := zh hn
 clear h hn hi hz0 hz1 hz2
 go_enter Tryz.func235, Tryz.ntmps235
 go_wp2
 go_loopw [4] (fun i wr => ∃ k : Nat, k ≤ xs.length ∧ i = .int .i64 k ∧ Os w.heap.size wr (.slice (some ⟨w.heap.size, 0, none⟩) xs.length xs.length) (xs.take k ++ List.replicate (xs.length - k) ⟨0, 0, false⟩) ∧ Ext w wr) (fun i _ => xs.length - (intOf i).toNat)
 case atStart => exact ⟨0, Nat.zero_le _, rfl, by have := Os.made (α := Window) w xs.length 248 #[.int .i64 0, .int .i64 0, .bool false] ⟨0, 0, false⟩ rfl rfl hl; simpa [GT.sz] using this, (Ext.refl w).alloc _⟩
 case round =>
  obtain ⟨k, hk, rfl, hb, he⟩ := hrel
  have HB := zh hb
  have HE := zh he
  clear hb he
  by_cases hlt : k < xs.length
  ·obtain ⟨b, o, x, rfl, _, hx, hc0, hc1, hc2, g0, g1, HR⟩ := (H.out.ext HE.out).atWindow k hlt
   clear H
   go_wp2_with fail
   refine (toWindow _ _ _ HR.out).mono ?_
   rintro e w1 ⟨v', rfl, ho', he'⟩
   obtain ⟨rfl, _r0, _r1⟩ := ho'.rv.openWindow
   obtain ⟨b2, o2, cs2, F2, x0, hb2, _, hL, ⟨rfl, _r0, _r1, rfl⟩, hat, hf2⟩ := (HB.out.ext he').at k (by simp; omega)
   cases hb2
   have hd0 := hat 0 _ rfl
   have hd1 := hat 1 _ rfl
   have hd2 := hat 2 _ rfl
   simp only [GT.sz, Nat.mul_one, Nat.add_zero, Nat.zero_add] at hd0 hd1 hd2
   have HB2 := zh (HB.out.put (i := k) he' (by simp; omega) HE.out.sz ho'.ow)
   have HE2 := zh (HE.out.tr he')
   clear HB HE hat he' ho'
   go_wp2
   go_roundw
   case rel =>
    refine ⟨k + 1, by omega, by go_num, ?_, (((HE2.out.set (Nat.le_refl _) _).set (Nat.le_refl _) _).set (Nat.le_refl _) _)⟩
    have := HB2.out
    rw [set_fill _ _ _ _ _ hlt (by simp; omega), ← take_snoc hx.out] at this
    simpa [putCells, GT.sz] using this
   case measure => simp [intOf]; omega
  ·obtain rfl : k = xs.length := by omega
   go_wp2
   go_ret
   exact ⟨_, rfl, by simpa using HB.out, HE.out⟩
theorem info_Channel : (Tryz.prog.info? 150).map (fun i => (i.zero, i.size, i.bytes)) = some (some (.agg #[.int .i64 0, .int .i64 0, .int .i64 0, .int .i64 0]), 4, 32) := by kernel_rfl
theorem toChannelS (v : Value) (xs : List Channel) (w : World) (h : Rs w v xs) (hn : GT.tot xs ≤ 1048576) :
  Calls Tryz.prog 138 #[v] w fun e w' => ∃ v', e = .returned v' ∧ Os w.heap.size w' v' xs ∧ Ext w w' := by
 obtain ⟨a, c, rfl, hl⟩ := h.form
 obtain ⟨i0, hi, hz0, hz1, hz2⟩ := info_parts info_Channel
 have hln : xs.length ≤ 1048576 := Nat.le_trans tot_len hn
 have hmk : ∀ u : World, (Instr.makeSlice 38 (.int .i64 xs.length) (.int .i64 xs.length)).run Tryz.prog u =
   .ok (.slice (some ⟨u.heap.size, 0, none⟩) xs.length xs.length) (u.alloc (.cells (madeCells #[.int .i64 0, .int .i64 0, .int .i64 0, .int .i64 0] (xs.length * 4)) 150)) := fun u => by
  have h := run_make (P := Tryz.prog) u 38 150 i0 (.agg #[.int .i64 0, .int .i64 0, .int .i64 0, .int .i64 0]) Tryz.underlying38 hi hz0 .i64 .i64 xs.length xs.length (by omega) (Int.le_refl _) (by rw [hz2]; omega) (by omega)
  simpa [hz1, Value.cells] using h
 have H := zh h
 have HN := zh hn
 clear h hn hi hz0 hz1 hz2
 go_enter Tryz.func138, Tryz.ntmps138
 go_wp2
 go_loopw [4] (fun i wr => ∃ k : Nat, k ≤ xs.length ∧ i = .int .i64 k ∧ Os w.heap.size wr (.slice (some ⟨w.heap.size, 0, none⟩) xs.length xs.length) (xs.take k ++ List.replicate (xs.length - k) ⟨0, 0, 0, 0⟩) ∧ Ext w wr) (fun i _ => xs.length - (intOf i).toNat)
 case atStart => exact ⟨0, Nat.zero_le _, rfl, by have := Os.made (α := Channel) w xs.length 150 #[.int .i64 0, .int .i64 0, .int .i64 0, .int .i64 0] ⟨0, 0, 0, 0⟩ rfl rfl hl; simpa [GT.sz] using this, (Ext.refl w).alloc _⟩
 case round =>
  obtain ⟨k, hk, rfl, hb, he⟩ := hrel
  have HB := zh hb
  have HE := zh he
  clear hb he
  by_cases hlt : k < xs.length
  ·obtain ⟨b, o, x, rfl, _, hx, hc0, hc1, hc2, hc3, g0, g1, g2, g3, HR⟩ := (H.out.ext HE.out).atChannel k hlt
   clear H
   go_wp2_with fail
   refine (toChannel _ _ _ HR.out).mono ?_
   rintro e w1 ⟨v', rfl, ho', he'⟩
   obtain ⟨rfl, _r0, _r1, _r2, _r3⟩ := ho'.rv.openChannel
   obtain ⟨b2, o2, cs2, F2, x0, hb2, _, hL, ⟨rfl, _r0, _r1, _r2, _r3, rfl⟩, hat, hf2⟩ := (HB.out.ext he').at k (by simp; omega)
   cases hb2
   have hd0 := hat 0 _ rfl
   have hd1 := hat 1 _ rfl
   have hd2 := hat 2 _ rfl
   have hd3 := hat 3 _ rfl
   simp only [GT.sz, Nat.mul_one, Nat.add_zero, Nat.zero_add] at hd0 hd1 hd2 hd3
   have HB2 := zh (HB.out.put (i := k) he' (by simp; omega) HE.out.sz ho'.ow)
   have HE2 := zh (HE.out.tr he')
   clear HB HE hat he' ho'
   go_wp2
   go_roundw
   case rel =>
    refine ⟨k + 1, by omega, by go_num, ?_, ((((HE2.out.set (Nat.le_refl _) _).set (Nat.le_refl _) _).set (Nat.le_refl _) _).set (Nat.le_refl _) _)⟩
    have := HB2.out
    rw [set_fill _ _ _ _ _ hlt (by simp; omega), ← take_snoc hx.out] at this
    simpa [putCells, GT.sz] using this
   case measure => simp [intOf]; omega
  ·obtain rfl : k = xs.length := by omega
   go_wp2
   go_ret
   exact ⟨_, rfl, by simpa using HB.out, HE.out⟩
theorem info_Slot : (Tryz.prog.info? 160).map (fun i => (i.zero, i.size, i.bytes)) = some (some (.agg #[.int .i64 0, .int .i64 0]), 2, 16) := by kernel_rfl
theorem toSlotS (v : Value) (xs : List Slot) (w : World) (h : Rs w v xs) (hn : GT.tot xs ≤ 1048576) :
  Calls Tryz.prog 139 #[v] w fun e w' => ∃ v', e = .returned v' ∧ Os w.heap.size w' v' xs ∧ Ext w w' := by
 obtain ⟨a, c, rfl, hl⟩ := h.form
 obtain ⟨i0, hi, hz0, hz1, hz2⟩ := info_parts info_Slot
 have hln : xs.length ≤ 1048576 := Nat.le_trans tot_len hn
 have hmk : ∀ u : World, (Instr.makeSlice 39 (.int .i64 xs.length) (.int .i64 xs.length)).run Tryz.prog u =
   .ok (.slice (some ⟨u.heap.size, 0, none⟩) xs.length xs.length) (u.alloc (.cells (madeCells #[.int .i64 0, .int .i64 0] (xs.length * 2)) 160)) := fun u => by
  have h := run_make (P := Tryz.prog) u 39 160 i0 (.agg #[.int .i64 0, .int .i64 0]) Tryz.underlying39 hi hz0 .i64 .i64 xs.length xs.length (by omega) (Int.le_refl _) (by rw [hz2]; omega) (by omega)
  simpa [hz1, Value.cells] using h
 have H := zh h
 have HN := zh hn
 clear h hn hi hz0 hz1 hz2
 go_enter Tryz.func139, Tryz.ntmps139
 go_wp2
 go_loopw [4] (fun i wr => ∃ k : Nat, k ≤ xs.length ∧ i = .int .i64 k ∧ Os w.heap.size wr (.slice (some ⟨w.heap.size, 0, none⟩) xs.length xs.length) (xs.take k ++ List.replicate (xs.length - k) ⟨0, 0⟩) ∧ Ext w wr) (fun i _ => xs.length - (intOf i).toNat)
 case atStart => exact ⟨0, Nat.zero_le _, rfl, by have := Os.made (α := Slot) w xs.length 160 #[.int .i64 0, .int .i64 0] ⟨0, 0⟩ rfl rfl hl; simpa [GT.sz] using this, (Ext.refl w).alloc _⟩
 case round =>
  obtain ⟨k, hk, rfl, hb, he⟩ := hrel
  have HB := zh hb
  have HE := zh he
  clear hb he
  by_cases hlt : k < xs.length
  ·obtain ⟨b, o, x, rfl, _, hx, hc0, hc1, g0, g1, HR⟩ := (H.out.ext HE.out).atSlot k hlt
   clear H
   go_wp2_with fail
   refine (toSlot _ _ _ HR.out).mono ?_
   rintro e w1 ⟨v', rfl, ho', he'⟩
   obtain ⟨rfl, _r0, _r1⟩ := ho'.rv.openSlot
   obtain ⟨b2, o2, cs2, F2, x0, hb2, _, hL, ⟨rfl, _r0, _r1, rfl⟩, hat, hf2⟩ := (HB.out.ext he').at k (by simp; omega)
   cases hb2
   have hd0 := hat 0 _ rfl
   have hd1 := hat 1 _ rfl
   simp only [GT.sz, Nat.mul_one, Nat.add_zero, Nat.zero_add] at hd0 hd1
   have HB2 := zh (HB.out.put (i := k) he' (by simp; omega) HE.out.sz ho'.ow)
   have HE2 := zh (HE.out.tr he')
   clear HB HE hat he' ho'
   go_wp2
   go_roundw
   case rel =>
    refine ⟨k + 1, by omega, by go_num, ?_, ((HE2.out.set (Nat.le_refl _) _).set (Nat.le_refl _) _)⟩
    have := HB2.out
    rw [set_fill _ _ _ _ _ hlt (by simp; omega), ← take_snoc hx.out] at this
    simpa [putCells, GT.sz] using this
   case measure => simp [intOf]; omega
  ·obtain rfl : k = xs.length := by omega
   go_wp2
   go_ret
   exact ⟨_, rfl, by simpa using HB.out, HE.out⟩
theorem info_Order : (Tryz.prog.info? 142).map (fun i => (i.zero, i.size, i.bytes)) = some (some (.agg #[.int .i64 0, .int .i64 0, .int .i64 0]), 3, 24) := by kernel_rfl
theorem toOrderS (v : Value) (xs : List Order) (w : World) (h : Rs w v xs) (hn : GT.tot xs ≤ 1048576) :
  Calls Tryz.prog 140 #[v] w fun e w' => ∃ v', e = .returned v' ∧ Os w.heap.size w' v' xs ∧ Ext w w' := by
 obtain ⟨a, c, rfl, hl⟩ := h.form
 obtain ⟨i0, hi, hz0, hz1, hz2⟩ := info_parts info_Order
 have hln : xs.length ≤ 1048576 := Nat.le_trans tot_len hn
 have hmk : ∀ u : World, (Instr.makeSlice 119 (.int .i64 xs.length) (.int .i64 xs.length)).run Tryz.prog u =
   .ok (.slice (some ⟨u.heap.size, 0, none⟩) xs.length xs.length) (u.alloc (.cells (madeCells #[.int .i64 0, .int .i64 0, .int .i64 0] (xs.length * 3)) 142)) := fun u => by
  have h := run_make (P := Tryz.prog) u 119 142 i0 (.agg #[.int .i64 0, .int .i64 0, .int .i64 0]) Tryz.underlying119 hi hz0 .i64 .i64 xs.length xs.length (by omega) (Int.le_refl _) (by rw [hz2]; omega) (by omega)
  simpa [hz1, Value.cells] using h
 have H := zh h
 have HN := zh hn
 clear h hn hi hz0 hz1 hz2
 go_enter Tryz.func140, Tryz.ntmps140
 go_wp2
 go_loopw [4] (fun i wr => ∃ k : Nat, k ≤ xs.length ∧ i = .int .i64 k ∧ Os w.heap.size wr (.slice (some ⟨w.heap.size, 0, none⟩) xs.length xs.length) (xs.take k ++ List.replicate (xs.length - k) ⟨0, 0, 0⟩) ∧ Ext w wr) (fun i _ => xs.length - (intOf i).toNat)
 case atStart => exact ⟨0, Nat.zero_le _, rfl, by have := Os.made (α := Order) w xs.length 142 #[.int .i64 0, .int .i64 0, .int .i64 0] ⟨0, 0, 0⟩ rfl rfl hl; simpa [GT.sz] using this, (Ext.refl w).alloc _⟩
 case round =>
  obtain ⟨k, hk, rfl, hb, he⟩ := hrel
  have HB := zh hb
  have HE := zh he
  clear hb he
  by_cases hlt : k < xs.length
  ·obtain ⟨b, o, x, rfl, _, hx, hc0, hc1, hc2, g0, g1, g2, HR⟩ := (H.out.ext HE.out).atOrder k hlt
   clear H
   go_wp2_with fail
   refine (toOrder _ _ _ HR.out).mono ?_
   rintro e w1 ⟨v', rfl, ho', he'⟩
   obtain ⟨rfl, _r0, _r1, _r2⟩ := ho'.rv.openOrder
   obtain ⟨b2, o2, cs2, F2, x0, hb2, _, hL, ⟨rfl, _r0, _r1, _r2, rfl⟩, hat, hf2⟩ := (HB.out.ext he').at k (by simp; omega)
   cases hb2
   have hd0 := hat 0 _ rfl
   have hd1 := hat 1 _ rfl
   have hd2 := hat 2 _ rfl
   simp only [GT.sz, Nat.mul_one, Nat.add_zero, Nat.zero_add] at hd0 hd1 hd2
   have HB2 := zh (HB.out.put (i := k) he' (by simp; omega) HE.out.sz ho'.ow)
   have HE2 := zh (HE.out.tr he')
   clear HB HE hat he' ho'
   go_wp2
   go_roundw
   case rel =>
    refine ⟨k + 1, by omega, by go_num, ?_, (((HE2.out.set (Nat.le_refl _) _).set (Nat.le_refl _) _).set (Nat.le_refl _) _)⟩
    have := HB2.out
    rw [set_fill _ _ _ _ _ hlt (by simp; omega), ← take_snoc hx.out] at this
    simpa [putCells, GT.sz] using this
   case measure => simp [intOf]; omega
  ·obtain rfl : k = xs.length := by omega
   go_wp2
   go_ret
   exact ⟨_, rfl, by simpa using HB.out, HE.out⟩
theorem info_Health : (Tryz.prog.info? 116).map (fun i => (i.zero, i.size, i.bytes)) = some (some (.agg #[.bool false, .int .i64 0]), 2, 16) := by kernel_rfl
theorem toHealthS (v : Value) (xs : List Health) (w : World) (h : Rs w v xs) (hn : GT.tot xs ≤ 1048576) :
  Calls Tryz.prog 38 #[v] w fun e w' => ∃ v', e = .returned v' ∧ Os w.heap.size w' v' xs ∧ Ext w w' := by
 obtain ⟨a, c, rfl, hl⟩ := h.form
 obtain ⟨i0, hi, hz0, hz1, hz2⟩ := info_parts info_Health
 have hln : xs.length ≤ 1048576 := Nat.le_trans tot_len hn
 have hmk : ∀ u : World, (Instr.makeSlice 47 (.int .i64 xs.length) (.int .i64 xs.length)).run Tryz.prog u =
   .ok (.slice (some ⟨u.heap.size, 0, none⟩) xs.length xs.length) (u.alloc (.cells (madeCells #[.bool false, .int .i64 0] (xs.length * 2)) 116)) := fun u => by
  have h := run_make (P := Tryz.prog) u 47 116 i0 (.agg #[.bool false, .int .i64 0]) Tryz.underlying47 hi hz0 .i64 .i64 xs.length xs.length (by omega) (Int.le_refl _) (by rw [hz2]; omega) (by omega)
  simpa [hz1, Value.cells] using h
 have H := zh h
 have HN := zh hn
 clear h hn hi hz0 hz1 hz2
 go_enter Tryz.func38, Tryz.ntmps38
 go_wp2
 go_loopw [4] (fun i wr => ∃ k : Nat, k ≤ xs.length ∧ i = .int .i64 k ∧ Os w.heap.size wr (.slice (some ⟨w.heap.size, 0, none⟩) xs.length xs.length) (xs.take k ++ List.replicate (xs.length - k) ⟨false, 0⟩) ∧ Ext w wr) (fun i _ => xs.length - (intOf i).toNat)
 case atStart => exact ⟨0, Nat.zero_le _, rfl, by have := Os.made (α := Health) w xs.length 116 #[.bool false, .int .i64 0] ⟨false, 0⟩ rfl rfl hl; simpa [GT.sz] using this, (Ext.refl w).alloc _⟩
 case round =>
  obtain ⟨k, hk, rfl, hb, he⟩ := hrel
  have HB := zh hb
  have HE := zh he
  clear hb he
  by_cases hlt : k < xs.length
  ·obtain ⟨b, o, x, rfl, _, hx, hc0, hc1, g1, HR⟩ := (H.out.ext HE.out).atHealth k hlt
   clear H
   go_wp2_with fail
   refine (toHealth _ _ _ HR.out).mono ?_
   rintro e w1 ⟨v', rfl, ho', he'⟩
   obtain ⟨rfl, _r1⟩ := ho'.rv.openHealth
   obtain ⟨b2, o2, cs2, F2, x0, hb2, _, hL, ⟨rfl, _r1, rfl⟩, hat, hf2⟩ := (HB.out.ext he').at k (by simp; omega)
   cases hb2
   have hd0 := hat 0 _ rfl
   have hd1 := hat 1 _ rfl
   simp only [GT.sz, Nat.mul_one, Nat.add_zero, Nat.zero_add] at hd0 hd1
   have HB2 := zh (HB.out.put (i := k) he' (by simp; omega) HE.out.sz ho'.ow)
   have HE2 := zh (HE.out.tr he')
   clear HB HE hat he' ho'
   go_wp2
   go_roundw
   case rel =>
    refine ⟨k + 1, by omega, by go_num, ?_, ((HE2.out.set (Nat.le_refl _) _).set (Nat.le_refl _) _)⟩
    have := HB2.out
    rw [set_fill _ _ _ _ _ hlt (by simp; omega), ← take_snoc hx.out] at this
    simpa [putCells, GT.sz] using this
   case measure => simp [intOf]; omega
  ·obtain rfl : k = xs.length := by omega
   go_wp2
   go_ret
   exact ⟨_, rfl, by simpa using HB.out, HE.out⟩
theorem info_OrderS : (Tryz.prog.info? 119).map (fun i => (i.zero, i.size, i.bytes)) = some (some (.slice none 0 0), 1, 24) := by kernel_rfl
theorem toOrderSS (v : Value) (xs : List (List Order)) (w : World) (h : Rs w v xs) (hn : GT.tot xs ≤ 1048576) :
  Calls Tryz.prog 76 #[v] w fun e w' => ∃ v', e = .returned v' ∧ Os w.heap.size w' v' xs ∧ Ext w w' := by
 obtain ⟨a, c, rfl, hl⟩ := h.form
 obtain ⟨i0, hi, hz0, hz1, hz2⟩ := info_parts info_OrderS
 have hln : xs.length ≤ 1048576 := Nat.le_trans tot_len hn
 have hmk : ∀ u : World, (Instr.makeSlice 42 (.int .i64 xs.length) (.int .i64 xs.length)).run Tryz.prog u =
   .ok (.slice (some ⟨u.heap.size, 0, none⟩) xs.length xs.length) (u.alloc (.cells (madeCells #[.slice none 0 0] (xs.length * 1)) 119)) := fun u => by
  have h := run_make (P := Tryz.prog) u 42 119 i0 (.slice none 0 0) Tryz.underlying42 hi hz0 .i64 .i64 xs.length xs.length (by omega) (Int.le_refl _) (by rw [hz2]; omega) (by omega)
  simpa [hz1, Value.cells] using h
 have H := zh h
 have HN := zh hn
 clear h hn hi hz0 hz1 hz2
 go_enter Tryz.func76, Tryz.ntmps76
 go_wp2
 go_loopw [4] (fun i wr => ∃ k : Nat, k ≤ xs.length ∧ i = .int .i64 k ∧ Os w.heap.size wr (.slice (some ⟨w.heap.size, 0, none⟩) xs.length xs.length) (xs.take k ++ List.replicate (xs.length - k) []) ∧ Ext w wr) (fun i _ => xs.length - (intOf i).toNat)
 case atStart => exact ⟨0, Nat.zero_le _, rfl, by have := Os.made (α := List Order) w xs.length 119 #[.slice none 0 0] [] rfl rfl hl; simpa [GT.sz] using this, (Ext.refl w).alloc _⟩
 case round =>
  obtain ⟨k, hk, rfl, hb, he⟩ := hrel
  have HB := zh hb
  have HE := zh he
  clear hb he
  by_cases hlt : k < xs.length
  ·obtain ⟨b, o, x, a', c', rfl, _, hx, hc0, HR, hl'⟩ := (H.out.ext HE.out).atList k hlt
   clear H
   have hxn : Hid (GT.tot x ≤ 1048576) := zh (by have h1 := tot_at hx.out; have h3 := HN.out; omega)
   go_wp2_with fail
   refine (toOrderS _ _ _ HR.out hxn.out).mono ?_
   rintro e w1 ⟨v', rfl, ho', he'⟩
   obtain ⟨av, cv, rfl, hlv⟩ := ho'.form
   obtain ⟨b2, o2, cs2, F2, x0, hb2, _, hL, ⟨v0, rfl, _⟩, hat, hf2⟩ := (HB.out.ext he').at k (by simp; omega)
   cases hb2
   have hd0 := hat 0 _ rfl
   simp only [GT.sz, Nat.mul_one, Nat.add_zero, Nat.zero_add] at hd0
   have HB2 := zh (HB.out.put (i := k) he' (by simp; omega) HE.out.sz ho'.ow)
   have HE2 := zh (HE.out.tr he')
   clear HB HE hat he' ho'
   go_wp2
   go_roundw
   case rel =>
    refine ⟨k + 1, by omega, by go_num, ?_, (HE2.out.set (Nat.le_refl _) _)⟩
    have := HB2.out
    rw [set_fill _ _ _ _ _ hlt (by simp; omega), ← take_snoc hx.out] at this
    simpa [putCells, GT.sz] using this
   case measure => simp [intOf]; omega
  ·obtain rfl : k = xs.length := by omega
   go_wp2
   go_ret
   exact ⟨_, rfl, by simpa using HB.out, HE.out⟩
theorem toPart (v : Value) (x : Part) (w : World) (h : Rv w v x) (hn : GT.tot x ≤ 1048576) :
  Calls Tryz.prog 195 #[v] w fun e w' => ∃ v', e = .returned v' ∧ Ov w.heap.size w' v' x ∧ Ext w w' := by
 have ht : GT.tot x = GT.tot x.Windows + GT.tot x.Cells := rfl
 obtain ⟨a0, c0, rfl, r1, h0, l0⟩ := h.openPart
 clear h
 have E0 := zh ((((Ext.refl w).alloc (.cells #[.slice a0 x.Windows.length c0, .int .i64 x.Cells] 228)).alloc (.cells #[.slice none 0 0, .int .i64 0] 147)).alloc (.cells #[.slice none 0 0, .int .i64 0] 147))
 have KA : Bk (((w.alloc (.cells #[.slice a0 x.Windows.length c0, .int .i64 x.Cells] 228)).alloc (.cells #[.slice none 0 0, .int .i64 0] 147)).alloc (.cells #[.slice none 0 0, .int .i64 0] 147)) w.heap.size [.slice a0 x.Windows.length c0, .int .i64 x.Cells] 228 := (Bk.new _ _ _).ext (((Ext.refl _).alloc _).alloc _)
 have KB : Bk (((w.alloc (.cells #[.slice a0 x.Windows.length c0, .int .i64 x.Cells] 228)).alloc (.cells #[.slice none 0 0, .int .i64 0] 147)).alloc (.cells #[.slice none 0 0, .int .i64 0] 147)) (w.heap.size + 1) [.slice none 0 0, .int .i64 0] 147 := (Bk.new1 _ _ _ _).ext ((Ext.refl _).alloc _)
 have KC : Bk (((w.alloc (.cells #[.slice a0 x.Windows.length c0, .int .i64 x.Cells] 228)).alloc (.cells #[.slice none 0 0, .int .i64 0] 147)).alloc (.cells #[.slice none 0 0, .int .i64 0] 147)) (w.heap.size + 1 + 1) [.slice none 0 0, .int .i64 0] 147 := Bk.new2 _ _ _ _ _
 replace KA := zh KA; replace KB := zh KB; replace KC := zh KC
 go_enter Tryz.func195, Tryz.ntmps195
 go_wp2_with fail
 refine (toWindowS _ _ _ (h0.out.ext (E0.out)) (by omega)).mono ?_
 rintro e w1 ⟨v0, rfl, ho0, he0⟩
 have E1 := zh (Ext.tr (E0.out) he0)
 have sz0 : w.heap.size + 1 + 1 + 1 ≤ w1.heap.size := by have := he0.sz; simpa using this
 have O0 := zh (Oe.ofS ho0 (L' := w.heap.size + 1 + 1 + 1) (by simp) sz0)
 obtain ⟨p0, q0, rfl, _⟩ := ho0.form
 replace KA := zh (Bk.ext (KA.out) he0)
 replace KB := zh (Bk.ext (KB.out) he0)
 replace KC := zh (Bk.ext (KC.out) he0)
 obtain ⟨fa0, fa1⟩ := Bk.k2 KA.out
 obtain ⟨fb0, fb1⟩ := Bk.k2 KB.out
 obtain ⟨fc0, fc1⟩ := Bk.k2 KC.out
 have fza := KA.out.fz
 have fzb := KB.out.fz
 have fzc := KC.out.fz
 clear ho0 he0
 go_wp2
 refine bodyPost_ret (v := .agg #[.slice p0 x.Windows.length q0, .int .i64 x.Cells]) (by simp [results, Tryz.results195, go_sem, fb0, fb1]) rfl ⟨_, rfl, ?_, ?_⟩
 ·have hh : ∀ {W : World}, Hi (w.heap.size + 1 + 1 + 1) w1 W → Ov (w.heap.size + 1 + 1 + 1) W (.agg #[.slice p0 x.Windows.length q0, .int .i64 x.Cells]) x := fun hW =>
   (Oe.mkPart (O0.out.hi hW (by omega)) r1).ov
  exact (hh ((Hi.set (Hi.set (Hi.set (Hi.set (Hi.refl _ _) (by simp <;> omega) _) (by simp <;> omega) _) (by simp <;> omega) _) (by simp <;> omega) _))).mono (by omega)
 ·exact (Ext.set (Ext.set (Ext.set (Ext.set E1.out (by simp <;> omega) _) (by simp <;> omega) _) (by simp <;> omega) _) (by simp <;> omega) _)
theorem info_Part : (Tryz.prog.info? 147).map (fun i => (i.zero, i.size, i.bytes)) = some (some (.agg #[.slice none 0 0, .int .i64 0]), 2, 32) := by kernel_rfl
theorem toPartS (v : Value) (xs : List Part) (w : World) (h : Rs w v xs) (hn : GT.tot xs ≤ 1048576) :
  Calls Tryz.prog 137 #[v] w fun e w' => ∃ v', e = .returned v' ∧ Os w.heap.size w' v' xs ∧ Ext w w' := by
 obtain ⟨a, c, rfl, hl⟩ := h.form
 obtain ⟨i0, hi, hz0, hz1, hz2⟩ := info_parts info_Part
 have hln : xs.length ≤ 1048576 := Nat.le_trans tot_len hn
 have hmk : ∀ u : World, (Instr.makeSlice 37 (.int .i64 xs.length) (.int .i64 xs.length)).run Tryz.prog u =
   .ok (.slice (some ⟨u.heap.size, 0, none⟩) xs.length xs.length) (u.alloc (.cells (madeCells #[.slice none 0 0, .int .i64 0] (xs.length * 2)) 147)) := fun u => by
  have h := run_make (P := Tryz.prog) u 37 147 i0 (.agg #[.slice none 0 0, .int .i64 0]) Tryz.underlying37 hi hz0 .i64 .i64 xs.length xs.length (by omega) (Int.le_refl _) (by rw [hz2]; omega) (by omega)
  simpa [hz1, Value.cells] using h
 have H := zh h
 have HN := zh hn
 clear h hn hi hz0 hz1 hz2
 go_enter Tryz.func137, Tryz.ntmps137
 go_wp2
 go_loopw [4] (fun i wr => ∃ k : Nat, k ≤ xs.length ∧ i = .int .i64 k ∧ Os w.heap.size wr (.slice (some ⟨w.heap.size, 0, none⟩) xs.length xs.length) (xs.take k ++ List.replicate (xs.length - k) ⟨[], 0⟩) ∧ Ext w wr) (fun i _ => xs.length - (intOf i).toNat)
 case atStart => exact ⟨0, Nat.zero_le _, rfl, by have := Os.made (α := Part) w xs.length 147 #[.slice none 0 0, .int .i64 0] ⟨[], 0⟩ rfl rfl hl; simpa [GT.sz] using this, (Ext.refl w).alloc _⟩
 case round =>
  obtain ⟨k, hk, rfl, hb, he⟩ := hrel
  have HB := zh hb
  have HE := zh he
  clear hb he
  by_cases hlt : k < xs.length
  ·obtain ⟨b, o, x, a0, c0, rfl, _, hx, hc0, hc1, g1, h0, l0, HR⟩ := (H.out.ext HE.out).atPart k hlt
   clear H
   have hxn : Hid (GT.tot x ≤ 1048576) := zh (by have h1 := tot_at hx.out; have h3 := HN.out; omega)
   go_wp2_with fail
   refine (toPart _ _ _ HR.out hxn.out).mono ?_
   rintro e w1 ⟨v', rfl, ho', he'⟩
   obtain ⟨p0, q0, rfl, _r1, _h0, _l0⟩ := ho'.rv.openPart
   obtain ⟨b2, o2, cs2, F2, x0, hb2, _, hL, ⟨y0, rfl, _h0, _r1⟩, hat, hf2⟩ := (HB.out.ext he').at k (by simp; omega)
   cases hb2
   have hd0 := hat 0 _ rfl
   have hd1 := hat 1 _ rfl
   simp only [GT.sz, Nat.mul_one, Nat.add_zero, Nat.zero_add] at hd0 hd1
   have HB2 := zh (HB.out.put (i := k) he' (by simp; omega) HE.out.sz ho'.ow)
   have HE2 := zh (HE.out.tr he')
   clear HB HE hat he' ho'
   go_wp2
   go_roundw
   case rel =>
    refine ⟨k + 1, by omega, by go_num, ?_, ((HE2.out.set (Nat.le_refl _) _).set (Nat.le_refl _) _)⟩
    have := HB2.out
    rw [set_fill _ _ _ _ _ hlt (by simp; omega), ← take_snoc hx.out] at this
    simpa [putCells, GT.sz] using this
   case measure => simp [intOf]; omega
  ·obtain rfl : k = xs.length := by omega
   go_wp2
   go_ret
   exact ⟨_, rfl, by simpa using HB.out, HE.out⟩
theorem toSetup (v : Value) (x : Setup) (w : World) (h : Rv w v x) (hn : GT.tot x ≤ 1048576) :
  Calls Tryz.prog 75 #[v] w fun e w' => ∃ v', e = .returned v' ∧ Ov w.heap.size w' v' x ∧ Ext w w' := by
 have ht : GT.tot x = GT.tot x.Parts + GT.tot x.Channels + GT.tot x.Slots := rfl
 obtain ⟨a0, c0, a1, c1, a2, c2, rfl, h0, l0, h1, l1, h2, l2⟩ := h.openSetup
 clear h
 have E0 := zh ((((Ext.refl w).alloc (.cells #[.slice a0 x.Parts.length c0, .slice a1 x.Channels.length c1, .slice a2 x.Slots.length c2] 26)).alloc (.cells #[.slice none 0 0, .slice none 0 0, .slice none 0 0] 41)).alloc (.cells #[.slice none 0 0, .slice none 0 0, .slice none 0 0] 41))
 have KA : Bk (((w.alloc (.cells #[.slice a0 x.Parts.length c0, .slice a1 x.Channels.length c1, .slice a2 x.Slots.length c2] 26)).alloc (.cells #[.slice none 0 0, .slice none 0 0, .slice none 0 0] 41)).alloc (.cells #[.slice none 0 0, .slice none 0 0, .slice none 0 0] 41)) w.heap.size [.slice a0 x.Parts.length c0, .slice a1 x.Channels.length c1, .slice a2 x.Slots.length c2] 26 := (Bk.new _ _ _).ext (((Ext.refl _).alloc _).alloc _)
 have KB : Bk (((w.alloc (.cells #[.slice a0 x.Parts.length c0, .slice a1 x.Channels.length c1, .slice a2 x.Slots.length c2] 26)).alloc (.cells #[.slice none 0 0, .slice none 0 0, .slice none 0 0] 41)).alloc (.cells #[.slice none 0 0, .slice none 0 0, .slice none 0 0] 41)) (w.heap.size + 1) [.slice none 0 0, .slice none 0 0, .slice none 0 0] 41 := (Bk.new1 _ _ _ _).ext ((Ext.refl _).alloc _)
 have KC : Bk (((w.alloc (.cells #[.slice a0 x.Parts.length c0, .slice a1 x.Channels.length c1, .slice a2 x.Slots.length c2] 26)).alloc (.cells #[.slice none 0 0, .slice none 0 0, .slice none 0 0] 41)).alloc (.cells #[.slice none 0 0, .slice none 0 0, .slice none 0 0] 41)) (w.heap.size + 1 + 1) [.slice none 0 0, .slice none 0 0, .slice none 0 0] 41 := Bk.new2 _ _ _ _ _
 replace KA := zh KA; replace KB := zh KB; replace KC := zh KC
 go_enter Tryz.func75, Tryz.ntmps75
 go_wp2_with fail
 refine (toPartS _ _ _ (h0.out.ext (E0.out)) (by omega)).mono ?_
 rintro e w1 ⟨v0, rfl, ho0, he0⟩
 have E1 := zh (Ext.tr (E0.out) he0)
 have sz0 : w.heap.size + 1 + 1 + 1 ≤ w1.heap.size := by have := he0.sz; simpa using this
 have O0 := zh (Oe.ofS ho0 (L' := w.heap.size + 1 + 1 + 1) (by simp) sz0)
 obtain ⟨p0, q0, rfl, _⟩ := ho0.form
 replace KA := zh (Bk.ext (KA.out) he0)
 replace KB := zh (Bk.ext (KB.out) he0)
 replace KC := zh (Bk.ext (KC.out) he0)
 obtain ⟨fa0, fa1, fa2⟩ := Bk.k3 KA.out
 obtain ⟨fb0, fb1, fb2⟩ := Bk.k3 KB.out
 obtain ⟨fc0, fc1, fc2⟩ := Bk.k3 KC.out
 have fza := KA.out.fz
 have fzb := KB.out.fz
 have fzc := KC.out.fz
 clear ho0 he0
 go_wp2_with fail
 refine (toChannelS _ _ _ (h1.out.ext ((Ext.set E1.out (by simp <;> omega) _))) (by omega)).mono ?_
 rintro e w2 ⟨v1, rfl, ho1, he1⟩
 have E2 := zh (Ext.tr ((Ext.set E1.out (by simp <;> omega) _)) he1)
 have sz1 : w1.heap.size ≤ w2.heap.size := by have := he1.sz; simpa using this
 have O1 := zh (Oe.ofS ho1 (L' := w1.heap.size) (by simp) sz1)
 obtain ⟨p1, q1, rfl, _⟩ := ho1.form
 replace O0 := zh ((O0.out.hi (n := w.heap.size + 1 + 1 + 1) ((Hi.set (Hi.refl _ _) (by simp <;> omega) _)) (by omega)).ext he1)
 clear fa0 fa1 fa2 fb0 fb1 fb2 fc0 fc1 fc2 fza fzb fzc
 replace KA := zh (Bk.ext ((Bk.set_ne KA.out (by simp <;> omega) _)) he1)
 replace KB := zh (Bk.ext ((Bk.set_ne KB.out (by simp <;> omega) _)) he1)
 replace KC := zh (Bk.ext ((Bk.set KC.out 0 _)) he1)
 obtain ⟨fa0, fa1, fa2⟩ := Bk.k3 KA.out
 obtain ⟨fb0, fb1, fb2⟩ := Bk.k3 KB.out
 obtain ⟨fc0, fc1, fc2⟩ := Bk.k3 KC.out
 have fza := KA.out.fz
 have fzb := KB.out.fz
 have fzc := KC.out.fz
 clear ho1 he1
 go_wp2_with fail
 refine (toSlotS _ _ _ (h2.out.ext ((Ext.set E2.out (by simp <;> omega) _))) (by omega)).mono ?_
 rintro e w3 ⟨v2, rfl, ho2, he2⟩
 have E3 := zh (Ext.tr ((Ext.set E2.out (by simp <;> omega) _)) he2)
 have sz2 : w2.heap.size ≤ w3.heap.size := by have := he2.sz; simpa using this
 have O2 := zh (Oe.ofS ho2 (L' := w2.heap.size) (by simp) sz2)
 obtain ⟨p2, q2, rfl, _⟩ := ho2.form
 replace O0 := zh ((O0.out.hi (n := w.heap.size + 1 + 1 + 1) ((Hi.set (Hi.refl _ _) (by simp <;> omega) _)) (by omega)).ext he2)
 replace O1 := zh ((O1.out.hi (n := w.heap.size + 1 + 1 + 1) ((Hi.set (Hi.refl _ _) (by simp <;> omega) _)) (by omega)).ext he2)
 clear fa0 fa1 fa2 fb0 fb1 fb2 fc0 fc1 fc2 fza fzb fzc
 replace KA := zh (Bk.ext ((Bk.set_ne KA.out (by simp <;> omega) _)) he2)
 replace KB := zh (Bk.ext ((Bk.set_ne KB.out (by simp <;> omega) _)) he2)
 replace KC := zh (Bk.ext ((Bk.set KC.out 1 _)) he2)
 obtain ⟨fa0, fa1, fa2⟩ := Bk.k3 KA.out
 obtain ⟨fb0, fb1, fb2⟩ := Bk.k3 KB.out
 obtain ⟨fc0, fc1, fc2⟩ := Bk.k3 KC.out
 have fza := KA.out.fz
 have fzb := KB.out.fz
 have fzc := KC.out.fz
 clear ho2 he2
 go_wp2
 refine bodyPost_ret (v := .agg #[.slice p0 x.Parts.length q0, .slice p1 x.Channels.length q1, .slice p2 x.Slots.length q2]) (by simp [results, Tryz.results75, go_sem, fb0, fb1, fb2]) rfl ⟨_, rfl, ?_, ?_⟩
 ·have hh : ∀ {W : World}, Hi (w.heap.size + 1 + 1 + 1) w3 W → Ov (w.heap.size + 1 + 1 + 1) W (.agg #[.slice p0 x.Parts.length q0, .slice p1 x.Channels.length q1, .slice p2 x.Slots.length q2]) x := fun hW =>
   (Oe.mkSetup (O0.out.hi hW (by omega)) (O1.out.hi hW (by omega)) (O2.out.hi hW (by omega))).ov
  exact (hh ((Hi.set (Hi.set (Hi.set (Hi.set (Hi.refl _ _) (by simp <;> omega) _) (by simp <;> omega) _) (by simp <;> omega) _) (by simp <;> omega) _))).mono (by omega)
 ·exact (Ext.set (Ext.set (Ext.set (Ext.set E3.out (by simp <;> omega) _) (by simp <;> omega) _) (by simp <;> omega) _) (by simp <;> omega) _)
theorem toCore (v : Value) (x : Core) (w : World) (h : Rv w v x) (hn : GT.tot x ≤ 1048576) :
  Calls Tryz.prog 141 #[v] w fun e w' => ∃ v', e = .returned v' ∧ Ov w.heap.size w' v' x ∧ Ext w w' := by
 have ht : GT.tot x = GT.tot x.Cells + GT.tot x.At + GT.tot x.Stopped := rfl
 obtain ⟨a0, c0, rfl, r1, h0, l0⟩ := h.openCore
 clear h
 have E0 := zh ((((Ext.refl w).alloc (.cells #[.slice a0 x.Cells.length c0, .int .i64 x.At, .bool x.Stopped] 180)).alloc (.cells #[.slice none 0 0, .int .i64 0, .bool false] 91)).alloc (.cells #[.slice none 0 0, .int .i64 0, .bool false] 91))
 have KA : Bk (((w.alloc (.cells #[.slice a0 x.Cells.length c0, .int .i64 x.At, .bool x.Stopped] 180)).alloc (.cells #[.slice none 0 0, .int .i64 0, .bool false] 91)).alloc (.cells #[.slice none 0 0, .int .i64 0, .bool false] 91)) w.heap.size [.slice a0 x.Cells.length c0, .int .i64 x.At, .bool x.Stopped] 180 := (Bk.new _ _ _).ext (((Ext.refl _).alloc _).alloc _)
 have KB : Bk (((w.alloc (.cells #[.slice a0 x.Cells.length c0, .int .i64 x.At, .bool x.Stopped] 180)).alloc (.cells #[.slice none 0 0, .int .i64 0, .bool false] 91)).alloc (.cells #[.slice none 0 0, .int .i64 0, .bool false] 91)) (w.heap.size + 1) [.slice none 0 0, .int .i64 0, .bool false] 91 := (Bk.new1 _ _ _ _).ext ((Ext.refl _).alloc _)
 have KC : Bk (((w.alloc (.cells #[.slice a0 x.Cells.length c0, .int .i64 x.At, .bool x.Stopped] 180)).alloc (.cells #[.slice none 0 0, .int .i64 0, .bool false] 91)).alloc (.cells #[.slice none 0 0, .int .i64 0, .bool false] 91)) (w.heap.size + 1 + 1) [.slice none 0 0, .int .i64 0, .bool false] 91 := Bk.new2 _ _ _ _ _
 replace KA := zh KA; replace KB := zh KB; replace KC := zh KC
 go_enter Tryz.func141, Tryz.ntmps141
 go_wp2_with fail
 refine (toIntS _ _ _ (h0.out.ext (E0.out)) (by omega)).mono ?_
 rintro e w1 ⟨v0, rfl, ho0, he0⟩
 have E1 := zh (Ext.tr (E0.out) he0)
 have sz0 : w.heap.size + 1 + 1 + 1 ≤ w1.heap.size := by have := he0.sz; simpa using this
 have O0 := zh (Oe.ofS ho0 (L' := w.heap.size + 1 + 1 + 1) (by simp) sz0)
 obtain ⟨p0, q0, rfl, _⟩ := ho0.form
 replace KA := zh (Bk.ext (KA.out) he0)
 replace KB := zh (Bk.ext (KB.out) he0)
 replace KC := zh (Bk.ext (KC.out) he0)
 obtain ⟨fa0, fa1, fa2⟩ := Bk.k3 KA.out
 obtain ⟨fb0, fb1, fb2⟩ := Bk.k3 KB.out
 obtain ⟨fc0, fc1, fc2⟩ := Bk.k3 KC.out
 have fza := KA.out.fz
 have fzb := KB.out.fz
 have fzc := KC.out.fz
 clear ho0 he0
 go_wp2
 refine bodyPost_ret (v := .agg #[.slice p0 x.Cells.length q0, .int .i64 x.At, .bool x.Stopped]) (by simp [results, Tryz.results141, go_sem, fb0, fb1, fb2]) rfl ⟨_, rfl, ?_, ?_⟩
 ·have hh : ∀ {W : World}, Hi (w.heap.size + 1 + 1 + 1) w1 W → Ov (w.heap.size + 1 + 1 + 1) W (.agg #[.slice p0 x.Cells.length q0, .int .i64 x.At, .bool x.Stopped]) x := fun hW =>
   (Oe.mkCore (O0.out.hi hW (by omega)) r1).ov
  exact (hh ((Hi.set (Hi.set (Hi.set (Hi.set (Hi.set (Hi.set (Hi.refl _ _) (by simp <;> omega) _) (by simp <;> omega) _) (by simp <;> omega) _) (by simp <;> omega) _) (by simp <;> omega) _) (by simp <;> omega) _))).mono (by omega)
 ·exact (Ext.set (Ext.set (Ext.set (Ext.set (Ext.set (Ext.set E1.out (by simp <;> omega) _) (by simp <;> omega) _) (by simp <;> omega) _) (by simp <;> omega) _) (by simp <;> omega) _) (by simp <;> omega) _)
theorem info_Core : (Tryz.prog.info? 91).map (fun i => (i.zero, i.size, i.bytes)) = some (some (.agg #[.slice none 0 0, .int .i64 0, .bool false]), 3, 40) := by kernel_rfl
theorem toCoreS (v : Value) (xs : List Core) (w : World) (h : Rs w v xs) (hn : GT.tot xs ≤ 1048576) :
  Calls Tryz.prog 77 #[v] w fun e w' => ∃ v', e = .returned v' ∧ Os w.heap.size w' v' xs ∧ Ext w w' := by
 obtain ⟨a, c, rfl, hl⟩ := h.form
 obtain ⟨i0, hi, hz0, hz1, hz2⟩ := info_parts info_Core
 have hln : xs.length ≤ 1048576 := Nat.le_trans tot_len hn
 have hmk : ∀ u : World, (Instr.makeSlice 43 (.int .i64 xs.length) (.int .i64 xs.length)).run Tryz.prog u =
   .ok (.slice (some ⟨u.heap.size, 0, none⟩) xs.length xs.length) (u.alloc (.cells (madeCells #[.slice none 0 0, .int .i64 0, .bool false] (xs.length * 3)) 91)) := fun u => by
  have h := run_make (P := Tryz.prog) u 43 91 i0 (.agg #[.slice none 0 0, .int .i64 0, .bool false]) Tryz.underlying43 hi hz0 .i64 .i64 xs.length xs.length (by omega) (Int.le_refl _) (by rw [hz2]; omega) (by omega)
  simpa [hz1, Value.cells] using h
 have H := zh h
 have HN := zh hn
 clear h hn hi hz0 hz1 hz2
 go_enter Tryz.func77, Tryz.ntmps77
 go_wp2
 go_loopw [4] (fun i wr => ∃ k : Nat, k ≤ xs.length ∧ i = .int .i64 k ∧ Os w.heap.size wr (.slice (some ⟨w.heap.size, 0, none⟩) xs.length xs.length) (xs.take k ++ List.replicate (xs.length - k) ⟨[], 0, false⟩) ∧ Ext w wr) (fun i _ => xs.length - (intOf i).toNat)
 case atStart => exact ⟨0, Nat.zero_le _, rfl, by have := Os.made (α := Core) w xs.length 91 #[.slice none 0 0, .int .i64 0, .bool false] ⟨[], 0, false⟩ rfl rfl hl; simpa [GT.sz] using this, (Ext.refl w).alloc _⟩
 case round =>
  obtain ⟨k, hk, rfl, hb, he⟩ := hrel
  have HB := zh hb
  have HE := zh he
  clear hb he
  by_cases hlt : k < xs.length
  ·obtain ⟨b, o, x, a0, c0, rfl, _, hx, hc0, hc1, hc2, g1, h0, l0, HR⟩ := (H.out.ext HE.out).atCore k hlt
   clear H
   have hxn : Hid (GT.tot x ≤ 1048576) := zh (by have h1 := tot_at hx.out; have h3 := HN.out; omega)
   go_wp2_with fail
   refine (toCore _ _ _ HR.out hxn.out).mono ?_
   rintro e w1 ⟨v', rfl, ho', he'⟩
   obtain ⟨p0, q0, rfl, _r1, _h0, _l0⟩ := ho'.rv.openCore
   obtain ⟨b2, o2, cs2, F2, x0, hb2, _, hL, ⟨y0, rfl, _h0, _r1⟩, hat, hf2⟩ := (HB.out.ext he').at k (by simp; omega)
   cases hb2
   have hd0 := hat 0 _ rfl
   have hd1 := hat 1 _ rfl
   have hd2 := hat 2 _ rfl
   simp only [GT.sz, Nat.mul_one, Nat.add_zero, Nat.zero_add] at hd0 hd1 hd2
   have HB2 := zh (HB.out.put (i := k) he' (by simp; omega) HE.out.sz ho'.ow)
   have HE2 := zh (HE.out.tr he')
   clear HB HE hat he' ho'
   go_wp2
   go_roundw
   case rel =>
    refine ⟨k + 1, by omega, by go_num, ?_, (((HE2.out.set (Nat.le_refl _) _).set (Nat.le_refl _) _).set (Nat.le_refl _) _)⟩
    have := HB2.out
    rw [set_fill _ _ _ _ _ hlt (by simp; omega), ← take_snoc hx.out] at this
    simpa [putCells, GT.sz] using this
   case measure => simp [intOf]; omega
  ·obtain rfl : k = xs.length := by omega
   go_wp2
   go_ret
   exact ⟨_, rfl, by simpa using HB.out, HE.out⟩
theorem toHold (v : Value) (x : Hold) (w : World) (h : Rv w v x) (hn : GT.tot x ≤ 1048576) :
  Calls Tryz.prog 142 #[v] w fun e w' => ∃ v', e = .returned v' ∧ Ov w.heap.size w' v' x ∧ Ext w w' := by
 have ht : GT.tot x = GT.tot x.Lst := rfl
 obtain ⟨a0, c0, rfl, h0, l0⟩ := h.openHold
 clear h
 have E0 := zh ((((Ext.refl w).alloc (.cells #[.slice a0 x.Lst.length c0] 182)).alloc (.cells #[.slice none 0 0] 121)).alloc (.cells #[.slice none 0 0] 121))
 have KA : Bk (((w.alloc (.cells #[.slice a0 x.Lst.length c0] 182)).alloc (.cells #[.slice none 0 0] 121)).alloc (.cells #[.slice none 0 0] 121)) w.heap.size [.slice a0 x.Lst.length c0] 182 := (Bk.new _ _ _).ext (((Ext.refl _).alloc _).alloc _)
 have KB : Bk (((w.alloc (.cells #[.slice a0 x.Lst.length c0] 182)).alloc (.cells #[.slice none 0 0] 121)).alloc (.cells #[.slice none 0 0] 121)) (w.heap.size + 1) [.slice none 0 0] 121 := (Bk.new1 _ _ _ _).ext ((Ext.refl _).alloc _)
 have KC : Bk (((w.alloc (.cells #[.slice a0 x.Lst.length c0] 182)).alloc (.cells #[.slice none 0 0] 121)).alloc (.cells #[.slice none 0 0] 121)) (w.heap.size + 1 + 1) [.slice none 0 0] 121 := Bk.new2 _ _ _ _ _
 replace KA := zh KA; replace KB := zh KB; replace KC := zh KC
 go_enter Tryz.func142, Tryz.ntmps142
 go_wp2_with fail
 refine (toIntS _ _ _ (h0.out.ext (E0.out)) (by omega)).mono ?_
 rintro e w1 ⟨v0, rfl, ho0, he0⟩
 have E1 := zh (Ext.tr (E0.out) he0)
 have sz0 : w.heap.size + 1 + 1 + 1 ≤ w1.heap.size := by have := he0.sz; simpa using this
 have O0 := zh (Oe.ofS ho0 (L' := w.heap.size + 1 + 1 + 1) (by simp) sz0)
 obtain ⟨p0, q0, rfl, _⟩ := ho0.form
 replace KA := zh (Bk.ext (KA.out) he0)
 replace KB := zh (Bk.ext (KB.out) he0)
 replace KC := zh (Bk.ext (KC.out) he0)
 have fa0 := KA.out.cell (j := 0) rfl
 have fb0 := KB.out.cell (j := 0) rfl
 have fc0 := KC.out.cell (j := 0) rfl
 have fza := KA.out.fz
 have fzb := KB.out.fz
 have fzc := KC.out.fz
 clear ho0 he0
 go_wp2
 refine bodyPost_ret (v := .agg #[.slice p0 x.Lst.length q0]) (by simp [results, Tryz.results142, go_sem, fb0]) rfl ⟨_, rfl, ?_, ?_⟩
 ·have hh : ∀ {W : World}, Hi (w.heap.size + 1 + 1 + 1) w1 W → Ov (w.heap.size + 1 + 1 + 1) W (.agg #[.slice p0 x.Lst.length q0]) x := fun hW =>
   (Oe.mkHold (O0.out.hi hW (by omega))).ov
  exact (hh ((Hi.set (Hi.set (Hi.refl _ _) (by simp <;> omega) _) (by simp <;> omega) _))).mono (by omega)
 ·exact (Ext.set (Ext.set E1.out (by simp <;> omega) _) (by simp <;> omega) _)
theorem info_Hold : (Tryz.prog.info? 121).map (fun i => (i.zero, i.size, i.bytes)) = some (some (.agg #[.slice none 0 0]), 1, 24) := by kernel_rfl
theorem toHoldS (v : Value) (xs : List Hold) (w : World) (h : Rs w v xs) (hn : GT.tot xs ≤ 1048576) :
  Calls Tryz.prog 78 #[v] w fun e w' => ∃ v', e = .returned v' ∧ Os w.heap.size w' v' xs ∧ Ext w w' := by
 obtain ⟨a, c, rfl, hl⟩ := h.form
 obtain ⟨i0, hi, hz0, hz1, hz2⟩ := info_parts info_Hold
 have hln : xs.length ≤ 1048576 := Nat.le_trans tot_len hn
 have hmk : ∀ u : World, (Instr.makeSlice 44 (.int .i64 xs.length) (.int .i64 xs.length)).run Tryz.prog u =
   .ok (.slice (some ⟨u.heap.size, 0, none⟩) xs.length xs.length) (u.alloc (.cells (madeCells #[.slice none 0 0] (xs.length * 1)) 121)) := fun u => by
  have h := run_make (P := Tryz.prog) u 44 121 i0 (.agg #[.slice none 0 0]) Tryz.underlying44 hi hz0 .i64 .i64 xs.length xs.length (by omega) (Int.le_refl _) (by rw [hz2]; omega) (by omega)
  simpa [hz1, Value.cells] using h
 have H := zh h
 have HN := zh hn
 clear h hn hi hz0 hz1 hz2
 go_enter Tryz.func78, Tryz.ntmps78
 go_wp2
 go_loopw [4] (fun i wr => ∃ k : Nat, k ≤ xs.length ∧ i = .int .i64 k ∧ Os w.heap.size wr (.slice (some ⟨w.heap.size, 0, none⟩) xs.length xs.length) (xs.take k ++ List.replicate (xs.length - k) ⟨[]⟩) ∧ Ext w wr) (fun i _ => xs.length - (intOf i).toNat)
 case atStart => exact ⟨0, Nat.zero_le _, rfl, by have := Os.made (α := Hold) w xs.length 121 #[.slice none 0 0] ⟨[]⟩ rfl rfl hl; simpa [GT.sz] using this, (Ext.refl w).alloc _⟩
 case round =>
  obtain ⟨k, hk, rfl, hb, he⟩ := hrel
  have HB := zh hb
  have HE := zh he
  clear hb he
  by_cases hlt : k < xs.length
  ·obtain ⟨b, o, x, a0, c0, rfl, _, hx, hc0, h0, l0, HR⟩ := (H.out.ext HE.out).atHold k hlt
   clear H
   have hxn : Hid (GT.tot x ≤ 1048576) := zh (by have h1 := tot_at hx.out; have h3 := HN.out; omega)
   go_wp2_with fail
   refine (toHold _ _ _ HR.out hxn.out).mono ?_
   rintro e w1 ⟨v', rfl, ho', he'⟩
   obtain ⟨p0, q0, rfl, _h0, _l0⟩ := ho'.rv.openHold
   obtain ⟨b2, o2, cs2, F2, x0, hb2, _, hL, ⟨y0, rfl, _h0⟩, hat, hf2⟩ := (HB.out.ext he').at k (by simp; omega)
   cases hb2
   have hd0 := hat 0 _ rfl
   simp only [GT.sz, Nat.mul_one, Nat.add_zero, Nat.zero_add] at hd0
   have HB2 := zh (HB.out.put (i := k) he' (by simp; omega) HE.out.sz ho'.ow)
   have HE2 := zh (HE.out.tr he')
   clear HB HE hat he' ho'
   go_wp2
   go_roundw
   case rel =>
    refine ⟨k + 1, by omega, by go_num, ?_, (HE2.out.set (Nat.le_refl _) _)⟩
    have := HB2.out
    rw [set_fill _ _ _ _ _ hlt (by simp; omega), ← take_snoc hx.out] at this
    simpa [putCells, GT.sz] using this
   case measure => simp [intOf]; omega
  ·obtain rfl : k = xs.length := by omega
   go_wp2
   go_ret
   exact ⟨_, rfl, by simpa using HB.out, HE.out⟩
theorem toMachine (v : Value) (x : Machine) (w : World) (h : Rv w v x) (hn : GT.tot x ≤ 1048576) :
  Calls Tryz.prog 37 #[v] w fun e w' => ∃ v', e = .returned v' ∧ Ov w.heap.size w' v' x ∧ Ext w w' := by
 have ht : GT.tot x = GT.tot x.Plan + GT.tot x.Programs + GT.tot x.Cores + GT.tot x.Holds + GT.tot x.Tick := rfl
 obtain ⟨a0, c0, a1, c1, a2, c2, a3, c3, a4, c4, a5, c5, rfl, r6, h0, l0, h1, l1, h2, l2, h3, l3, h4, l4, h5, l5⟩ := h.openMachine
 clear h
 have E0 := zh ((((Ext.refl w).alloc (.cells #[.slice a0 x.Plan.Parts.length c0, .slice a1 x.Plan.Channels.length c1, .slice a2 x.Plan.Slots.length c2, .slice a3 x.Programs.length c3, .slice a4 x.Cores.length c4, .slice a5 x.Holds.length c5, .int .i64 x.Tick] 31)).alloc (.cells #[.slice none 0 0, .slice none 0 0, .slice none 0 0, .slice none 0 0, .slice none 0 0, .slice none 0 0, .int .i64 0] 46)).alloc (.cells #[.slice none 0 0, .slice none 0 0, .slice none 0 0, .slice none 0 0, .slice none 0 0, .slice none 0 0, .int .i64 0] 46))
 have KA : Bk (((w.alloc (.cells #[.slice a0 x.Plan.Parts.length c0, .slice a1 x.Plan.Channels.length c1, .slice a2 x.Plan.Slots.length c2, .slice a3 x.Programs.length c3, .slice a4 x.Cores.length c4, .slice a5 x.Holds.length c5, .int .i64 x.Tick] 31)).alloc (.cells #[.slice none 0 0, .slice none 0 0, .slice none 0 0, .slice none 0 0, .slice none 0 0, .slice none 0 0, .int .i64 0] 46)).alloc (.cells #[.slice none 0 0, .slice none 0 0, .slice none 0 0, .slice none 0 0, .slice none 0 0, .slice none 0 0, .int .i64 0] 46)) w.heap.size [.slice a0 x.Plan.Parts.length c0, .slice a1 x.Plan.Channels.length c1, .slice a2 x.Plan.Slots.length c2, .slice a3 x.Programs.length c3, .slice a4 x.Cores.length c4, .slice a5 x.Holds.length c5, .int .i64 x.Tick] 31 := (Bk.new _ _ _).ext (((Ext.refl _).alloc _).alloc _)
 have KB : Bk (((w.alloc (.cells #[.slice a0 x.Plan.Parts.length c0, .slice a1 x.Plan.Channels.length c1, .slice a2 x.Plan.Slots.length c2, .slice a3 x.Programs.length c3, .slice a4 x.Cores.length c4, .slice a5 x.Holds.length c5, .int .i64 x.Tick] 31)).alloc (.cells #[.slice none 0 0, .slice none 0 0, .slice none 0 0, .slice none 0 0, .slice none 0 0, .slice none 0 0, .int .i64 0] 46)).alloc (.cells #[.slice none 0 0, .slice none 0 0, .slice none 0 0, .slice none 0 0, .slice none 0 0, .slice none 0 0, .int .i64 0] 46)) (w.heap.size + 1) [.slice none 0 0, .slice none 0 0, .slice none 0 0, .slice none 0 0, .slice none 0 0, .slice none 0 0, .int .i64 0] 46 := (Bk.new1 _ _ _ _).ext ((Ext.refl _).alloc _)
 have KC : Bk (((w.alloc (.cells #[.slice a0 x.Plan.Parts.length c0, .slice a1 x.Plan.Channels.length c1, .slice a2 x.Plan.Slots.length c2, .slice a3 x.Programs.length c3, .slice a4 x.Cores.length c4, .slice a5 x.Holds.length c5, .int .i64 x.Tick] 31)).alloc (.cells #[.slice none 0 0, .slice none 0 0, .slice none 0 0, .slice none 0 0, .slice none 0 0, .slice none 0 0, .int .i64 0] 46)).alloc (.cells #[.slice none 0 0, .slice none 0 0, .slice none 0 0, .slice none 0 0, .slice none 0 0, .slice none 0 0, .int .i64 0] 46)) (w.heap.size + 1 + 1) [.slice none 0 0, .slice none 0 0, .slice none 0 0, .slice none 0 0, .slice none 0 0, .slice none 0 0, .int .i64 0] 46 := Bk.new2 _ _ _ _ _
 replace KA := zh KA; replace KB := zh KB; replace KC := zh KC
 go_enter Tryz.func37, Tryz.ntmps37
 go_wp2_with fail
 refine (toSetup _ _ _ (Rv.mkSetup (h0.out.ext (E0.out)) (h1.out.ext (E0.out)) (h2.out.ext (E0.out))) (by omega)).mono ?_
 rintro e w1 ⟨v0, rfl, ho0, he0⟩
 have E1 := zh (Ext.tr (E0.out) he0)
 have sz0 : w.heap.size + 1 + 1 + 1 ≤ w1.heap.size := by have := he0.sz; simpa using this
 obtain ⟨p0, q0, p1, q1, p2, q2, rfl, _, _, _, _, _, _⟩ := ho0.rv.openSetup
 have O0 := zh (Oe.ofV ho0 (L' := w.heap.size + 1 + 1 + 1) (by simp) sz0)
 replace KA := zh (Bk.ext (KA.out) he0)
 replace KB := zh (Bk.ext (KB.out) he0)
 replace KC := zh (Bk.ext (KC.out) he0)
 obtain ⟨fa0, fa1, fa2, fa3, fa4, fa5, fa6⟩ := Bk.k7 KA.out
 obtain ⟨fb0, fb1, fb2, fb3, fb4, fb5, fb6⟩ := Bk.k7 KB.out
 obtain ⟨fc0, fc1, fc2, fc3, fc4, fc5, fc6⟩ := Bk.k7 KC.out
 have fza := KA.out.fz
 have fzb := KB.out.fz
 have fzc := KC.out.fz
 clear ho0 he0
 go_wp2_with fail
 refine (toOrderSS _ _ _ (h3.out.ext ((Ext.set (Ext.set (Ext.set E1.out (by simp <;> omega) _) (by simp <;> omega) _) (by simp <;> omega) _))) (by omega)).mono ?_
 rintro e w2 ⟨v1, rfl, ho1, he1⟩
 have E2 := zh (Ext.tr ((Ext.set (Ext.set (Ext.set E1.out (by simp <;> omega) _) (by simp <;> omega) _) (by simp <;> omega) _)) he1)
 have sz1 : w1.heap.size ≤ w2.heap.size := by have := he1.sz; simpa using this
 have O1 := zh (Oe.ofS ho1 (L' := w1.heap.size) (by simp) sz1)
 obtain ⟨p3, q3, rfl, _⟩ := ho1.form
 replace O0 := zh ((O0.out.hi (n := w.heap.size + 1 + 1 + 1) ((Hi.set (Hi.set (Hi.set (Hi.refl _ _) (by simp <;> omega) _) (by simp <;> omega) _) (by simp <;> omega) _)) (by omega)).ext he1)
 clear fa0 fa1 fa2 fa3 fa4 fa5 fa6 fb0 fb1 fb2 fb3 fb4 fb5 fb6 fc0 fc1 fc2 fc3 fc4 fc5 fc6 fza fzb fzc
 replace KA := zh (Bk.ext ((Bk.set_ne (Bk.set_ne (Bk.set_ne KA.out (by simp <;> omega) _) (by simp <;> omega) _) (by simp <;> omega) _)) he1)
 replace KB := zh (Bk.ext ((Bk.set_ne (Bk.set_ne (Bk.set_ne KB.out (by simp <;> omega) _) (by simp <;> omega) _) (by simp <;> omega) _)) he1)
 replace KC := zh (Bk.ext ((Bk.set (Bk.set (Bk.set KC.out 0 _) 1 _) 2 _)) he1)
 obtain ⟨fa0, fa1, fa2, fa3, fa4, fa5, fa6⟩ := Bk.k7 KA.out
 obtain ⟨fb0, fb1, fb2, fb3, fb4, fb5, fb6⟩ := Bk.k7 KB.out
 obtain ⟨fc0, fc1, fc2, fc3, fc4, fc5, fc6⟩ := Bk.k7 KC.out
 have fza := KA.out.fz
 have fzb := KB.out.fz
 have fzc := KC.out.fz
 clear ho1 he1
 go_wp2_with fail
 refine (toCoreS _ _ _ (h4.out.ext ((Ext.set E2.out (by simp <;> omega) _))) (by omega)).mono ?_
 rintro e w3 ⟨v2, rfl, ho2, he2⟩
 have E3 := zh (Ext.tr ((Ext.set E2.out (by simp <;> omega) _)) he2)
 have sz2 : w2.heap.size ≤ w3.heap.size := by have := he2.sz; simpa using this
 have O2 := zh (Oe.ofS ho2 (L' := w2.heap.size) (by simp) sz2)
 obtain ⟨p4, q4, rfl, _⟩ := ho2.form
 replace O0 := zh ((O0.out.hi (n := w.heap.size + 1 + 1 + 1) ((Hi.set (Hi.refl _ _) (by simp <;> omega) _)) (by omega)).ext he2)
 replace O1 := zh ((O1.out.hi (n := w.heap.size + 1 + 1 + 1) ((Hi.set (Hi.refl _ _) (by simp <;> omega) _)) (by omega)).ext he2)
 clear fa0 fa1 fa2 fa3 fa4 fa5 fa6 fb0 fb1 fb2 fb3 fb4 fb5 fb6 fc0 fc1 fc2 fc3 fc4 fc5 fc6 fza fzb fzc
 replace KA := zh (Bk.ext ((Bk.set_ne KA.out (by simp <;> omega) _)) he2)
 replace KB := zh (Bk.ext ((Bk.set_ne KB.out (by simp <;> omega) _)) he2)
 replace KC := zh (Bk.ext ((Bk.set KC.out 3 _)) he2)
 obtain ⟨fa0, fa1, fa2, fa3, fa4, fa5, fa6⟩ := Bk.k7 KA.out
 obtain ⟨fb0, fb1, fb2, fb3, fb4, fb5, fb6⟩ := Bk.k7 KB.out
 obtain ⟨fc0, fc1, fc2, fc3, fc4, fc5, fc6⟩ := Bk.k7 KC.out
 have fza := KA.out.fz
 have fzb := KB.out.fz
 have fzc := KC.out.fz
 clear ho2 he2
 go_wp2_with fail
 refine (toHoldS _ _ _ (h5.out.ext ((Ext.set E3.out (by simp <;> omega) _))) (by omega)).mono ?_
 rintro e w4 ⟨v3, rfl, ho3, he3⟩
 have E4 := zh (Ext.tr ((Ext.set E3.out (by simp <;> omega) _)) he3)
 have sz3 : w3.heap.size ≤ w4.heap.size := by have := he3.sz; simpa using this
 have O3 := zh (Oe.ofS ho3 (L' := w3.heap.size) (by simp) sz3)
 obtain ⟨p5, q5, rfl, _⟩ := ho3.form
 replace O0 := zh ((O0.out.hi (n := w.heap.size + 1 + 1 + 1) ((Hi.set (Hi.refl _ _) (by simp <;> omega) _)) (by omega)).ext he3)
 replace O1 := zh ((O1.out.hi (n := w.heap.size + 1 + 1 + 1) ((Hi.set (Hi.refl _ _) (by simp <;> omega) _)) (by omega)).ext he3)
 replace O2 := zh ((O2.out.hi (n := w.heap.size + 1 + 1 + 1) ((Hi.set (Hi.refl _ _) (by simp <;> omega) _)) (by omega)).ext he3)
 clear fa0 fa1 fa2 fa3 fa4 fa5 fa6 fb0 fb1 fb2 fb3 fb4 fb5 fb6 fc0 fc1 fc2 fc3 fc4 fc5 fc6 fza fzb fzc
 replace KA := zh (Bk.ext ((Bk.set_ne KA.out (by simp <;> omega) _)) he3)
 replace KB := zh (Bk.ext ((Bk.set_ne KB.out (by simp <;> omega) _)) he3)
 replace KC := zh (Bk.ext ((Bk.set KC.out 4 _)) he3)
 obtain ⟨fa0, fa1, fa2, fa3, fa4, fa5, fa6⟩ := Bk.k7 KA.out
 obtain ⟨fb0, fb1, fb2, fb3, fb4, fb5, fb6⟩ := Bk.k7 KB.out
 obtain ⟨fc0, fc1, fc2, fc3, fc4, fc5, fc6⟩ := Bk.k7 KC.out
 have fza := KA.out.fz
 have fzb := KB.out.fz
 have fzc := KC.out.fz
 clear ho3 he3
 go_wp2
 refine bodyPost_ret (v := .agg #[.slice p0 x.Plan.Parts.length q0, .slice p1 x.Plan.Channels.length q1, .slice p2 x.Plan.Slots.length q2, .slice p3 x.Programs.length q3, .slice p4 x.Cores.length q4, .slice p5 x.Holds.length q5, .int .i64 x.Tick]) (by simp [results, Tryz.results37, go_sem, fb0, fb1, fb2, fb3, fb4, fb5, fb6]) rfl ⟨_, rfl, ?_, ?_⟩
 ·have hh : ∀ {W : World}, Hi (w.heap.size + 1 + 1 + 1) w4 W → Ov (w.heap.size + 1 + 1 + 1) W (.agg #[.slice p0 x.Plan.Parts.length q0, .slice p1 x.Plan.Channels.length q1, .slice p2 x.Plan.Slots.length q2, .slice p3 x.Programs.length q3, .slice p4 x.Cores.length q4, .slice p5 x.Holds.length q5, .int .i64 x.Tick]) x := fun hW =>
   (Oe.mkMachine (O0.out.hi hW (by omega)) (O1.out.hi hW (by omega)) (O2.out.hi hW (by omega)) (O3.out.hi hW (by omega)) r6).ov
  exact (hh ((Hi.set (Hi.set (Hi.set (Hi.set (Hi.set (Hi.set (Hi.set (Hi.set (Hi.set (Hi.refl _ _) (by simp <;> omega) _) (by simp <;> omega) _) (by simp <;> omega) _) (by simp <;> omega) _) (by simp <;> omega) _) (by simp <;> omega) _) (by simp <;> omega) _) (by simp <;> omega) _) (by simp <;> omega) _))).mono (by omega)
 ·exact (Ext.set (Ext.set (Ext.set (Ext.set (Ext.set (Ext.set (Ext.set (Ext.set (Ext.set E4.out (by simp <;> omega) _) (by simp <;> omega) _) (by simp <;> omega) _) (by simp <;> omega) _) (by simp <;> omega) _) (by simp <;> omega) _) (by simp <;> omega) _) (by simp <;> omega) _) (by simp <;> omega) _)
theorem toWatch (v : Value) (x : Watch) (w : World) (h : Rv w v x) (hn : GT.tot x ≤ 1048576) :
  Calls Tryz.prog 10 #[v] w fun e w' => ∃ v', e = .returned v' ∧ Ov w.heap.size w' v' x ∧ Ext w w' := by
 have ht : GT.tot x = GT.tot x.Box + GT.tot x.States := rfl
 obtain ⟨a0, c0, a1, c1, a2, c2, a3, c3, a4, c4, a5, c5, a7, c7, rfl, r6, h0, l0, h1, l1, h2, l2, h3, l3, h4, l4, h5, l5, h7, l7⟩ := h.openWatch
 clear h
 have E0 := zh ((((Ext.refl w).alloc (.cells #[.slice a0 x.Box.Plan.Parts.length c0, .slice a1 x.Box.Plan.Channels.length c1, .slice a2 x.Box.Plan.Slots.length c2, .slice a3 x.Box.Programs.length c3, .slice a4 x.Box.Cores.length c4, .slice a5 x.Box.Holds.length c5, .int .i64 x.Box.Tick, .slice a7 x.States.length c7] 34)).alloc (.cells #[.slice none 0 0, .slice none 0 0, .slice none 0 0, .slice none 0 0, .slice none 0 0, .slice none 0 0, .int .i64 0, .slice none 0 0] 49)).alloc (.cells #[.slice none 0 0, .slice none 0 0, .slice none 0 0, .slice none 0 0, .slice none 0 0, .slice none 0 0, .int .i64 0, .slice none 0 0] 49))
 have KA : Bk (((w.alloc (.cells #[.slice a0 x.Box.Plan.Parts.length c0, .slice a1 x.Box.Plan.Channels.length c1, .slice a2 x.Box.Plan.Slots.length c2, .slice a3 x.Box.Programs.length c3, .slice a4 x.Box.Cores.length c4, .slice a5 x.Box.Holds.length c5, .int .i64 x.Box.Tick, .slice a7 x.States.length c7] 34)).alloc (.cells #[.slice none 0 0, .slice none 0 0, .slice none 0 0, .slice none 0 0, .slice none 0 0, .slice none 0 0, .int .i64 0, .slice none 0 0] 49)).alloc (.cells #[.slice none 0 0, .slice none 0 0, .slice none 0 0, .slice none 0 0, .slice none 0 0, .slice none 0 0, .int .i64 0, .slice none 0 0] 49)) w.heap.size [.slice a0 x.Box.Plan.Parts.length c0, .slice a1 x.Box.Plan.Channels.length c1, .slice a2 x.Box.Plan.Slots.length c2, .slice a3 x.Box.Programs.length c3, .slice a4 x.Box.Cores.length c4, .slice a5 x.Box.Holds.length c5, .int .i64 x.Box.Tick, .slice a7 x.States.length c7] 34 := (Bk.new _ _ _).ext (((Ext.refl _).alloc _).alloc _)
 have KB : Bk (((w.alloc (.cells #[.slice a0 x.Box.Plan.Parts.length c0, .slice a1 x.Box.Plan.Channels.length c1, .slice a2 x.Box.Plan.Slots.length c2, .slice a3 x.Box.Programs.length c3, .slice a4 x.Box.Cores.length c4, .slice a5 x.Box.Holds.length c5, .int .i64 x.Box.Tick, .slice a7 x.States.length c7] 34)).alloc (.cells #[.slice none 0 0, .slice none 0 0, .slice none 0 0, .slice none 0 0, .slice none 0 0, .slice none 0 0, .int .i64 0, .slice none 0 0] 49)).alloc (.cells #[.slice none 0 0, .slice none 0 0, .slice none 0 0, .slice none 0 0, .slice none 0 0, .slice none 0 0, .int .i64 0, .slice none 0 0] 49)) (w.heap.size + 1) [.slice none 0 0, .slice none 0 0, .slice none 0 0, .slice none 0 0, .slice none 0 0, .slice none 0 0, .int .i64 0, .slice none 0 0] 49 := (Bk.new1 _ _ _ _).ext ((Ext.refl _).alloc _)
 have KC : Bk (((w.alloc (.cells #[.slice a0 x.Box.Plan.Parts.length c0, .slice a1 x.Box.Plan.Channels.length c1, .slice a2 x.Box.Plan.Slots.length c2, .slice a3 x.Box.Programs.length c3, .slice a4 x.Box.Cores.length c4, .slice a5 x.Box.Holds.length c5, .int .i64 x.Box.Tick, .slice a7 x.States.length c7] 34)).alloc (.cells #[.slice none 0 0, .slice none 0 0, .slice none 0 0, .slice none 0 0, .slice none 0 0, .slice none 0 0, .int .i64 0, .slice none 0 0] 49)).alloc (.cells #[.slice none 0 0, .slice none 0 0, .slice none 0 0, .slice none 0 0, .slice none 0 0, .slice none 0 0, .int .i64 0, .slice none 0 0] 49)) (w.heap.size + 1 + 1) [.slice none 0 0, .slice none 0 0, .slice none 0 0, .slice none 0 0, .slice none 0 0, .slice none 0 0, .int .i64 0, .slice none 0 0] 49 := Bk.new2 _ _ _ _ _
 replace KA := zh KA; replace KB := zh KB; replace KC := zh KC
 go_enter Tryz.func10, Tryz.ntmps10
 go_wp2_with fail
 refine (toMachine _ _ _ (Rv.mkMachine (h0.out.ext (E0.out)) (h1.out.ext (E0.out)) (h2.out.ext (E0.out)) (h3.out.ext (E0.out)) (h4.out.ext (E0.out)) (h5.out.ext (E0.out)) r6) (by omega)).mono ?_
 rintro e w1 ⟨v0, rfl, ho0, he0⟩
 have E1 := zh (Ext.tr (E0.out) he0)
 have sz0 : w.heap.size + 1 + 1 + 1 ≤ w1.heap.size := by have := he0.sz; simpa using this
 obtain ⟨p0, q0, p1, q1, p2, q2, p3, q3, p4, q4, p5, q5, rfl, _, _, _, _, _, _, _, _, _, _, _, _, _⟩ := ho0.rv.openMachine
 have O0 := zh (Oe.ofV ho0 (L' := w.heap.size + 1 + 1 + 1) (by simp) sz0)
 replace KA := zh (Bk.ext (KA.out) he0)
 replace KB := zh (Bk.ext (KB.out) he0)
 replace KC := zh (Bk.ext (KC.out) he0)
 obtain ⟨fa0, fa1, fa2, fa3, fa4, fa5, fa6, fa7⟩ := Bk.k8 KA.out
 obtain ⟨fb0, fb1, fb2, fb3, fb4, fb5, fb6, fb7⟩ := Bk.k8 KB.out
 obtain ⟨fc0, fc1, fc2, fc3, fc4, fc5, fc6, fc7⟩ := Bk.k8 KC.out
 have fza := KA.out.fz
 have fzb := KB.out.fz
 have fzc := KC.out.fz
 clear ho0 he0
 go_wp2_with fail
 refine (toHealthS _ _ _ (h7.out.ext ((Ext.set (Ext.set (Ext.set (Ext.set (Ext.set (Ext.set (Ext.set E1.out (by simp <;> omega) _) (by simp <;> omega) _) (by simp <;> omega) _) (by simp <;> omega) _) (by simp <;> omega) _) (by simp <;> omega) _) (by simp <;> omega) _))) (by omega)).mono ?_
 rintro e w2 ⟨v1, rfl, ho1, he1⟩
 have E2 := zh (Ext.tr ((Ext.set (Ext.set (Ext.set (Ext.set (Ext.set (Ext.set (Ext.set E1.out (by simp <;> omega) _) (by simp <;> omega) _) (by simp <;> omega) _) (by simp <;> omega) _) (by simp <;> omega) _) (by simp <;> omega) _) (by simp <;> omega) _)) he1)
 have sz1 : w1.heap.size ≤ w2.heap.size := by have := he1.sz; simpa using this
 have O1 := zh (Oe.ofS ho1 (L' := w1.heap.size) (by simp) sz1)
 obtain ⟨p7, q7, rfl, _⟩ := ho1.form
 replace O0 := zh ((O0.out.hi (n := w.heap.size + 1 + 1 + 1) ((Hi.set (Hi.set (Hi.set (Hi.set (Hi.set (Hi.set (Hi.set (Hi.refl _ _) (by simp <;> omega) _) (by simp <;> omega) _) (by simp <;> omega) _) (by simp <;> omega) _) (by simp <;> omega) _) (by simp <;> omega) _) (by simp <;> omega) _)) (by omega)).ext he1)
 clear fa0 fa1 fa2 fa3 fa4 fa5 fa6 fa7 fb0 fb1 fb2 fb3 fb4 fb5 fb6 fb7 fc0 fc1 fc2 fc3 fc4 fc5 fc6 fc7 fza fzb fzc
 replace KA := zh (Bk.ext ((Bk.set_ne (Bk.set_ne (Bk.set_ne (Bk.set_ne (Bk.set_ne (Bk.set_ne (Bk.set_ne KA.out (by simp <;> omega) _) (by simp <;> omega) _) (by simp <;> omega) _) (by simp <;> omega) _) (by simp <;> omega) _) (by simp <;> omega) _) (by simp <;> omega) _)) he1)
 replace KB := zh (Bk.ext ((Bk.set_ne (Bk.set_ne (Bk.set_ne (Bk.set_ne (Bk.set_ne (Bk.set_ne (Bk.set_ne KB.out (by simp <;> omega) _) (by simp <;> omega) _) (by simp <;> omega) _) (by simp <;> omega) _) (by simp <;> omega) _) (by simp <;> omega) _) (by simp <;> omega) _)) he1)
 replace KC := zh (Bk.ext ((Bk.set (Bk.set (Bk.set (Bk.set (Bk.set (Bk.set (Bk.set KC.out 0 _) 1 _) 2 _) 3 _) 4 _) 5 _) 6 _)) he1)
 obtain ⟨fa0, fa1, fa2, fa3, fa4, fa5, fa6, fa7⟩ := Bk.k8 KA.out
 obtain ⟨fb0, fb1, fb2, fb3, fb4, fb5, fb6, fb7⟩ := Bk.k8 KB.out
 obtain ⟨fc0, fc1, fc2, fc3, fc4, fc5, fc6, fc7⟩ := Bk.k8 KC.out
 have fza := KA.out.fz
 have fzb := KB.out.fz
 have fzc := KC.out.fz
 clear ho1 he1
 go_wp2
 refine bodyPost_ret (v := .agg #[.slice p0 x.Box.Plan.Parts.length q0, .slice p1 x.Box.Plan.Channels.length q1, .slice p2 x.Box.Plan.Slots.length q2, .slice p3 x.Box.Programs.length q3, .slice p4 x.Box.Cores.length q4, .slice p5 x.Box.Holds.length q5, .int .i64 x.Box.Tick, .slice p7 x.States.length q7]) (by simp [results, Tryz.results10, go_sem, fb0, fb1, fb2, fb3, fb4, fb5, fb6, fb7]) rfl ⟨_, rfl, ?_, ?_⟩
 ·have hh : ∀ {W : World}, Hi (w.heap.size + 1 + 1 + 1) w2 W → Ov (w.heap.size + 1 + 1 + 1) W (.agg #[.slice p0 x.Box.Plan.Parts.length q0, .slice p1 x.Box.Plan.Channels.length q1, .slice p2 x.Box.Plan.Slots.length q2, .slice p3 x.Box.Programs.length q3, .slice p4 x.Box.Cores.length q4, .slice p5 x.Box.Holds.length q5, .int .i64 x.Box.Tick, .slice p7 x.States.length q7]) x := fun hW =>
   (Oe.mkWatch (O0.out.hi hW (by omega)) (O1.out.hi hW (by omega))).ov
  exact (hh ((Hi.set (Hi.set (Hi.set (Hi.set (Hi.set (Hi.set (Hi.set (Hi.set (Hi.set (Hi.refl _ _) (by simp <;> omega) _) (by simp <;> omega) _) (by simp <;> omega) _) (by simp <;> omega) _) (by simp <;> omega) _) (by simp <;> omega) _) (by simp <;> omega) _) (by simp <;> omega) _) (by simp <;> omega) _))).mono (by omega)
 ·exact (Ext.set (Ext.set (Ext.set (Ext.set (Ext.set (Ext.set (Ext.set (Ext.set (Ext.set E2.out (by simp <;> omega) _) (by simp <;> omega) _) (by simp <;> omega) _) (by simp <;> omega) _) (by simp <;> omega) _) (by simp <;> omega) _) (by simp <;> omega) _) (by simp <;> omega) _) (by simp <;> omega) _)
end Sk
