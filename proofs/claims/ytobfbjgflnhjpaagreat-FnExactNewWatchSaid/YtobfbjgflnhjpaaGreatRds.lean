/- Contracts of functions of the given program, and lemmas for them: each theorem states the condition under which it holds. -/
import Derived.Test.YtobfbjgflnhjpaaGreatChecked
import Derived.ChangeArms
import Derived.Test.YtobfbjgflnhjpaaGreatOwn
import Derived.Test.YtobfbjgflnhjpaaGreatTypes
namespace Sk
open Go Go.Proofs Go.RowKit Go.ChangeShapes Go.WideShapes Go.ChangeAt Go.Deep
set_option maxRecDepth 100000
set_option linter.unusedVariables false
set_option linter.unusedSimpArgs false
theorem rd_int : Rdr Tryz.prog 3 Int := .int Tryz.underlying3 (by kernel_rfl)
theorem rd_bool : Rdr Tryz.prog 4 Bool := .bool Tryz.underlying4 (by kernel_rfl)
theorem rd_IntS : Rdr Tryz.prog 98 (List Int) := .slice rd_int Tryz.underlying98 (by kernel_rfl)
theorem rd_Window : Rdr Tryz.prog 207 Window := by
  refine ⟨by kernel_rfl, fun {H enc w base spare held fuel cs x} h => ?_⟩
  obtain ⟨ys, n, _, rfl, hl, hlen, hf⟩ := DataW.trod_struct Tryz.underlying207 h
  rw [show Tryz.prog.cellsOf 207 = 3 by kernel_rfl] at hl
  match cs, hl with
  | [c0, c1, c2], _ =>
    match ys, hlen with
    | [y0, y1, y2], _ =>
      have k0 : DataW.trod enc Tryz.prog w base spare held n 3 (([c0, c1, c2].drop 0).take (Tryz.prog.cellsOf 3)) = some y0 := hf 0 _ rfl
      rw [rd_int.cells] at k0
      obtain ⟨x0, F0, e0⟩ := rd_int.rd (x := y0) k0
      have k1 : DataW.trod enc Tryz.prog w base spare held n 3 (([c0, c1, c2].drop 1).take (Tryz.prog.cellsOf 3)) = some y1 := hf 1 _ rfl
      rw [rd_int.cells] at k1
      obtain ⟨x1, F1, e1⟩ := rd_int.rd (x := y1) k1
      have k2 : DataW.trod enc Tryz.prog w base spare held n 4 (([c0, c1, c2].drop 2).take (Tryz.prog.cellsOf 4)) = some y2 := hf 2 _ rfl
      rw [rd_bool.cells] at k2
      obtain ⟨x2, F2, e2⟩ := rd_bool.rd (x := y2) k2
      obtain ⟨q0, r0, rfl⟩ := e0; cases q0
      obtain ⟨q1, r1, rfl⟩ := e1; cases q1
      obtain ⟨q2, rfl⟩ := e2; cases q2
      exact ⟨⟨x0, x1, x2⟩, _, rfl, r0, r1, rfl⟩
theorem rd_WindowS : Rdr Tryz.prog 145 (List Window) := .slice rd_Window Tryz.underlying145 (by kernel_rfl)
theorem rd_Part : Rdr Tryz.prog 147 Part := by
  refine ⟨by kernel_rfl, fun {H enc w base spare held fuel cs x} h => ?_⟩
  obtain ⟨ys, n, _, rfl, hl, hlen, hf⟩ := DataW.trod_struct Tryz.underlying147 h
  rw [show Tryz.prog.cellsOf 147 = 2 by kernel_rfl] at hl
  match cs, hl with
  | [c0, c1], _ =>
    match ys, hlen with
    | [y0, y1], _ =>
      have k0 : DataW.trod enc Tryz.prog w base spare held n 145 (([c0, c1].drop 0).take (Tryz.prog.cellsOf 145)) = some y0 := hf 0 _ rfl
      rw [rd_WindowS.cells] at k0
      obtain ⟨x0, F0, e0⟩ := rd_WindowS.rd (x := y0) k0
      have k1 : DataW.trod enc Tryz.prog w base spare held n 3 (([c0, c1].drop 1).take (Tryz.prog.cellsOf 3)) = some y1 := hf 1 _ rfl
      rw [rd_int.cells] at k1
      obtain ⟨x1, F1, e1⟩ := rd_int.rd (x := y1) k1
      obtain ⟨v0, q0, h0⟩ := e0; cases q0
      obtain ⟨q1, r1, rfl⟩ := e1; cases q1
      exact ⟨⟨x0, x1⟩, _, _, rfl, h0, r1⟩
theorem rd_PartS : Rdr Tryz.prog 35 (List Part) := .slice rd_Part Tryz.underlying35 (by kernel_rfl)
theorem rd_Channel : Rdr Tryz.prog 154 Channel := by
  refine ⟨by kernel_rfl, fun {H enc w base spare held fuel cs x} h => ?_⟩
  obtain ⟨ys, n, _, rfl, hl, hlen, hf⟩ := DataW.trod_struct Tryz.underlying154 h
  rw [show Tryz.prog.cellsOf 154 = 4 by kernel_rfl] at hl
  match cs, hl with
  | [c0, c1, c2, c3], _ =>
    match ys, hlen with
    | [y0, y1, y2, y3], _ =>
      have k0 : DataW.trod enc Tryz.prog w base spare held n 3 (([c0, c1, c2, c3].drop 0).take (Tryz.prog.cellsOf 3)) = some y0 := hf 0 _ rfl
      rw [rd_int.cells] at k0
      obtain ⟨x0, F0, e0⟩ := rd_int.rd (x := y0) k0
      have k1 : DataW.trod enc Tryz.prog w base spare held n 3 (([c0, c1, c2, c3].drop 1).take (Tryz.prog.cellsOf 3)) = some y1 := hf 1 _ rfl
      rw [rd_int.cells] at k1
      obtain ⟨x1, F1, e1⟩ := rd_int.rd (x := y1) k1
      have k2 : DataW.trod enc Tryz.prog w base spare held n 3 (([c0, c1, c2, c3].drop 2).take (Tryz.prog.cellsOf 3)) = some y2 := hf 2 _ rfl
      rw [rd_int.cells] at k2
      obtain ⟨x2, F2, e2⟩ := rd_int.rd (x := y2) k2
      have k3 : DataW.trod enc Tryz.prog w base spare held n 3 (([c0, c1, c2, c3].drop 3).take (Tryz.prog.cellsOf 3)) = some y3 := hf 3 _ rfl
      rw [rd_int.cells] at k3
      obtain ⟨x3, F3, e3⟩ := rd_int.rd (x := y3) k3
      obtain ⟨q0, r0, rfl⟩ := e0; cases q0
      obtain ⟨q1, r1, rfl⟩ := e1; cases q1
      obtain ⟨q2, r2, rfl⟩ := e2; cases q2
      obtain ⟨q3, r3, rfl⟩ := e3; cases q3
      exact ⟨⟨x0, x1, x2, x3⟩, _, rfl, r0, r1, r2, r3, rfl⟩
theorem rd_ChannelS : Rdr Tryz.prog 36 (List Channel) := .slice rd_Channel Tryz.underlying36 (by kernel_rfl)
theorem rd_Slot : Rdr Tryz.prog 158 Slot := by
  refine ⟨by kernel_rfl, fun {H enc w base spare held fuel cs x} h => ?_⟩
  obtain ⟨ys, n, _, rfl, hl, hlen, hf⟩ := DataW.trod_struct Tryz.underlying158 h
  rw [show Tryz.prog.cellsOf 158 = 2 by kernel_rfl] at hl
  match cs, hl with
  | [c0, c1], _ =>
    match ys, hlen with
    | [y0, y1], _ =>
      have k0 : DataW.trod enc Tryz.prog w base spare held n 3 (([c0, c1].drop 0).take (Tryz.prog.cellsOf 3)) = some y0 := hf 0 _ rfl
      rw [rd_int.cells] at k0
      obtain ⟨x0, F0, e0⟩ := rd_int.rd (x := y0) k0
      have k1 : DataW.trod enc Tryz.prog w base spare held n 3 (([c0, c1].drop 1).take (Tryz.prog.cellsOf 3)) = some y1 := hf 1 _ rfl
      rw [rd_int.cells] at k1
      obtain ⟨x1, F1, e1⟩ := rd_int.rd (x := y1) k1
      obtain ⟨q0, r0, rfl⟩ := e0; cases q0
      obtain ⟨q1, r1, rfl⟩ := e1; cases q1
      exact ⟨⟨x0, x1⟩, _, rfl, r0, r1, rfl⟩
theorem rd_SlotS : Rdr Tryz.prog 37 (List Slot) := .slice rd_Slot Tryz.underlying37 (by kernel_rfl)
theorem rd_Setup : Rdr Tryz.prog 39 Setup := by
  refine ⟨by kernel_rfl, fun {H enc w base spare held fuel cs x} h => ?_⟩
  obtain ⟨ys, n, _, rfl, hl, hlen, hf⟩ := DataW.trod_struct Tryz.underlying39 h
  rw [show Tryz.prog.cellsOf 39 = 3 by kernel_rfl] at hl
  match cs, hl with
  | [c0, c1, c2], _ =>
    match ys, hlen with
    | [y0, y1, y2], _ =>
      have k0 : DataW.trod enc Tryz.prog w base spare held n 35 (([c0, c1, c2].drop 0).take (Tryz.prog.cellsOf 35)) = some y0 := hf 0 _ rfl
      rw [rd_PartS.cells] at k0
      obtain ⟨x0, F0, e0⟩ := rd_PartS.rd (x := y0) k0
      have k1 : DataW.trod enc Tryz.prog w base spare held n 36 (([c0, c1, c2].drop 1).take (Tryz.prog.cellsOf 36)) = some y1 := hf 1 _ rfl
      rw [rd_ChannelS.cells] at k1
      obtain ⟨x1, F1, e1⟩ := rd_ChannelS.rd (x := y1) k1
      have k2 : DataW.trod enc Tryz.prog w base spare held n 37 (([c0, c1, c2].drop 2).take (Tryz.prog.cellsOf 37)) = some y2 := hf 2 _ rfl
      rw [rd_SlotS.cells] at k2
      obtain ⟨x2, F2, e2⟩ := rd_SlotS.rd (x := y2) k2
      obtain ⟨v0, q0, h0⟩ := e0; cases q0
      obtain ⟨v1, q1, h1⟩ := e1; cases q1
      obtain ⟨v2, q2, h2⟩ := e2; cases q2
      exact ⟨⟨x0, x1, x2⟩, _, _, _, _, _, _, _, rfl, h0, h1, h2, rfl⟩
theorem rd_Order : Rdr Tryz.prog 162 Order := by
  refine ⟨by kernel_rfl, fun {H enc w base spare held fuel cs x} h => ?_⟩
  obtain ⟨ys, n, _, rfl, hl, hlen, hf⟩ := DataW.trod_struct Tryz.underlying162 h
  rw [show Tryz.prog.cellsOf 162 = 3 by kernel_rfl] at hl
  match cs, hl with
  | [c0, c1, c2], _ =>
    match ys, hlen with
    | [y0, y1, y2], _ =>
      have k0 : DataW.trod enc Tryz.prog w base spare held n 3 (([c0, c1, c2].drop 0).take (Tryz.prog.cellsOf 3)) = some y0 := hf 0 _ rfl
      rw [rd_int.cells] at k0
      obtain ⟨x0, F0, e0⟩ := rd_int.rd (x := y0) k0
      have k1 : DataW.trod enc Tryz.prog w base spare held n 3 (([c0, c1, c2].drop 1).take (Tryz.prog.cellsOf 3)) = some y1 := hf 1 _ rfl
      rw [rd_int.cells] at k1
      obtain ⟨x1, F1, e1⟩ := rd_int.rd (x := y1) k1
      have k2 : DataW.trod enc Tryz.prog w base spare held n 3 (([c0, c1, c2].drop 2).take (Tryz.prog.cellsOf 3)) = some y2 := hf 2 _ rfl
      rw [rd_int.cells] at k2
      obtain ⟨x2, F2, e2⟩ := rd_int.rd (x := y2) k2
      obtain ⟨q0, r0, rfl⟩ := e0; cases q0
      obtain ⟨q1, r1, rfl⟩ := e1; cases q1
      obtain ⟨q2, r2, rfl⟩ := e2; cases q2
      exact ⟨⟨x0, x1, x2⟩, _, rfl, r0, r1, r2, rfl⟩
theorem rd_OrderS : Rdr Tryz.prog 96 (List Order) := .slice rd_Order Tryz.underlying96 (by kernel_rfl)
theorem rd_OrderSS : Rdr Tryz.prog 40 (List (List Order)) := .slice rd_OrderS Tryz.underlying40 (by kernel_rfl)
theorem rd_Core : Rdr Tryz.prog 179 Core := by
  refine ⟨by kernel_rfl, fun {H enc w base spare held fuel cs x} h => ?_⟩
  obtain ⟨ys, n, _, rfl, hl, hlen, hf⟩ := DataW.trod_struct Tryz.underlying179 h
  rw [show Tryz.prog.cellsOf 179 = 3 by kernel_rfl] at hl
  match cs, hl with
  | [c0, c1, c2], _ =>
    match ys, hlen with
    | [y0, y1, y2], _ =>
      have k0 : DataW.trod enc Tryz.prog w base spare held n 98 (([c0, c1, c2].drop 0).take (Tryz.prog.cellsOf 98)) = some y0 := hf 0 _ rfl
      rw [rd_IntS.cells] at k0
      obtain ⟨x0, F0, e0⟩ := rd_IntS.rd (x := y0) k0
      have k1 : DataW.trod enc Tryz.prog w base spare held n 3 (([c0, c1, c2].drop 1).take (Tryz.prog.cellsOf 3)) = some y1 := hf 1 _ rfl
      rw [rd_int.cells] at k1
      obtain ⟨x1, F1, e1⟩ := rd_int.rd (x := y1) k1
      have k2 : DataW.trod enc Tryz.prog w base spare held n 4 (([c0, c1, c2].drop 2).take (Tryz.prog.cellsOf 4)) = some y2 := hf 2 _ rfl
      rw [rd_bool.cells] at k2
      obtain ⟨x2, F2, e2⟩ := rd_bool.rd (x := y2) k2
      obtain ⟨v0, q0, h0⟩ := e0; cases q0
      obtain ⟨q1, r1, rfl⟩ := e1; cases q1
      obtain ⟨q2, rfl⟩ := e2; cases q2
      exact ⟨⟨x0, x1, x2⟩, _, _, rfl, h0, r1⟩
theorem rd_CoreS : Rdr Tryz.prog 63 (List Core) := .slice rd_Core Tryz.underlying63 (by kernel_rfl)
theorem rd_Hold : Rdr Tryz.prog 181 Hold := by
  refine ⟨by kernel_rfl, fun {H enc w base spare held fuel cs x} h => ?_⟩
  obtain ⟨ys, n, _, rfl, hl, hlen, hf⟩ := DataW.trod_struct Tryz.underlying181 h
  rw [show Tryz.prog.cellsOf 181 = 1 by kernel_rfl] at hl
  match cs, hl with
  | [c0], _ =>
    match ys, hlen with
    | [y0], _ =>
      have k0 : DataW.trod enc Tryz.prog w base spare held n 98 (([c0].drop 0).take (Tryz.prog.cellsOf 98)) = some y0 := hf 0 _ rfl
      rw [rd_IntS.cells] at k0
      obtain ⟨x0, F0, e0⟩ := rd_IntS.rd (x := y0) k0
      obtain ⟨v0, q0, h0⟩ := e0; cases q0
      exact ⟨⟨x0⟩, _, _, rfl, h0⟩
theorem rd_HoldS : Rdr Tryz.prog 64 (List Hold) := .slice rd_Hold Tryz.underlying64 (by kernel_rfl)
theorem rd_Machine : Rdr Tryz.prog 66 Machine := by
  refine ⟨by kernel_rfl, fun {H enc w base spare held fuel cs x} h => ?_⟩
  obtain ⟨ys, n, _, rfl, hl, hlen, hf⟩ := DataW.trod_struct Tryz.underlying66 h
  rw [show Tryz.prog.cellsOf 66 = 7 by kernel_rfl] at hl
  match cs, hl with
  | [c0, c1, c2, c3, c4, c5, c6], _ =>
    match ys, hlen with
    | [y0, y1, y2, y3, y4], _ =>
      have k0 : DataW.trod enc Tryz.prog w base spare held n 39 (([c0, c1, c2, c3, c4, c5, c6].drop 0).take (Tryz.prog.cellsOf 39)) = some y0 := hf 0 _ rfl
      rw [rd_Setup.cells] at k0
      obtain ⟨x0, F0, e0⟩ := rd_Setup.rd (x := y0) k0
      have k1 : DataW.trod enc Tryz.prog w base spare held n 40 (([c0, c1, c2, c3, c4, c5, c6].drop 3).take (Tryz.prog.cellsOf 40)) = some y1 := hf 1 _ rfl
      rw [rd_OrderSS.cells] at k1
      obtain ⟨x1, F1, e1⟩ := rd_OrderSS.rd (x := y1) k1
      have k2 : DataW.trod enc Tryz.prog w base spare held n 63 (([c0, c1, c2, c3, c4, c5, c6].drop 4).take (Tryz.prog.cellsOf 63)) = some y2 := hf 2 _ rfl
      rw [rd_CoreS.cells] at k2
      obtain ⟨x2, F2, e2⟩ := rd_CoreS.rd (x := y2) k2
      have k3 : DataW.trod enc Tryz.prog w base spare held n 64 (([c0, c1, c2, c3, c4, c5, c6].drop 5).take (Tryz.prog.cellsOf 64)) = some y3 := hf 3 _ rfl
      rw [rd_HoldS.cells] at k3
      obtain ⟨x3, F3, e3⟩ := rd_HoldS.rd (x := y3) k3
      have k4 : DataW.trod enc Tryz.prog w base spare held n 3 (([c0, c1, c2, c3, c4, c5, c6].drop 6).take (Tryz.prog.cellsOf 3)) = some y4 := hf 4 _ rfl
      rw [rd_int.cells] at k4
      obtain ⟨x4, F4, e4⟩ := rd_int.rd (x := y4) k4
      obtain ⟨v0, v1, v2, G0, G1, G2, q0, h0, h1, h2, rfl⟩ := e0; cases q0
      obtain ⟨v3, q1, h3⟩ := e1; cases q1
      obtain ⟨v4, q2, h4⟩ := e2; cases q2
      obtain ⟨v5, q3, h5⟩ := e3; cases q3
      obtain ⟨q4, r6, rfl⟩ := e4; cases q4
      exact ⟨⟨x0, x1, x2, x3, x4⟩, _, _, _, _, _, _, _, _, _, _, _, _, _, rfl, h0, h1, h2, h3, h4, h5, r6, rfl⟩
end Sk

namespace Sk
open Go Go.Proofs Go.RowKit
set_option maxHeartbeats 400000
set_option maxRecDepth 100000
set_option linter.unusedVariables false
set_option linter.unusedSimpArgs false
/-- lo ≤ n ≤ hi. -/
def M.inn (n lo hi : Int) : Bool := decide (lo ≤ n) && decide (n ≤ hi)
theorem M.inn_t {n lo hi : Int} (h1 : lo ≤ n) (h2 : n ≤ hi) : M.inn n lo hi = true := by simp [M.inn, h1, h2]
theorem M.inn_f {n lo hi : Int} (h : ¬ (lo ≤ n ∧ n ≤ hi)) : M.inn n lo hi = false := by simp [M.inn]; omega
theorem M.inn_iff {n lo hi : Int} : M.inn n lo hi = true ↔ lo ≤ n ∧ n ≤ hi := by simp [M.inn]
theorem M.inn_ff {n lo hi : Int} (h : M.inn n lo hi = false) : ¬ (lo ≤ n ∧ n ≤ hi) := fun h' => by rw [M.inn_t h'.1 h'.2] at h; cases h
theorem spec_In (n lo hi : Int) (w : World) : Calls Tryz.prog 80 #[.int .i64 n, .int .i64 lo, .int .i64 hi] w fun e w' => e = .returned (.bool (M.inn n lo hi)) ∧ w = w' := by
  by_cases h1 : lo ≤ n
  · have hm : Hid (M.inn n lo hi = decide (n ≤ hi)) := by simp [M.inn, h1, Hid]
    go_enter Tryz.func80, Tryz.ntmps80
    go_wp2
    all_goals go_ret
    all_goals exact ⟨by rw [hm.out]; rfl, rfl⟩
  · have hm : Hid (M.inn n lo hi = false) := by simp [M.inn, h1, Hid]
    go_enter Tryz.func80, Tryz.ntmps80
    go_wp2
    all_goals go_ret
    all_goals exact ⟨by rw [hm.out]; rfl, rfl⟩
theorem impl_in (n lo hi : Int) (w : World) : Calls Tryz.prog 83 #[.int .i64 n, .int .i64 lo, .int .i64 hi] w fun e w' => e = .returned (.bool (M.inn n lo hi)) ∧ w = w' := by
  by_cases h1 : lo ≤ n
  · have hm : Hid (M.inn n lo hi = decide (n ≤ hi)) := by simp [M.inn, h1, Hid]
    go_enter Tryz.func83, Tryz.ntmps83
    go_wp2
    all_goals go_ret
    all_goals exact ⟨by rw [hm.out]; rfl, rfl⟩
  · have hm : Hid (M.inn n lo hi = false) := by simp [M.inn, h1, Hid]
    go_enter Tryz.func83, Tryz.ntmps83
    go_wp2
    all_goals go_ret
    all_goals exact ⟨by rw [hm.out]; rfl, rfl⟩
def M.bit (b : Bool) : Int := if b then 1 else 0
theorem impl_isValue (n : Int) (w : World) : Calls Tryz.prog 135 #[.int .i64 n] w fun e w' => e = .returned (.bool (M.inn n 0 255)) ∧ w = w' := by
  go_enter Tryz.func135, Tryz.ntmps135
  go_wp2_with (go_at_call 83; refine (impl_in _ _ _ _).mono ?_; rintro e w' ⟨rfl, rfl⟩)
  go_ret
  exact ⟨rfl, rfl⟩
/-- A kind and a size that fit. -/
noncomputable def M.sized (k s : Int) : Bool := Bo (k = 1 ∧ s = 1 ∨ (k = 2 ∨ k = 3) ∧ 1 ≤ s ∧ s ≤ 4)
theorem impl_sized (k s : Int) (w : World) : Calls Tryz.prog 136 #[.int .i64 k, .int .i64 s] w fun e w' => e = .returned (.bool (M.sized k s)) ∧ w = w' := by
  by_cases h1 : k = 1
  · subst h1
    have hm : Hid (M.sized 1 s = (s == 1)) := by
      unfold Hid M.sized
      by_cases h : s = 1
      · rw [Bo.t (by omega)]; simp [h]
      · rw [Bo.f (by omega)]; simp [h]
    go_enter Tryz.func136, Tryz.ntmps136
    go_wp2
    all_goals go_ret
    all_goals exact ⟨by rw [hm.out]; (first | rfl | simp_all), rfl⟩
  · have h1' : (k == 1) = false := by simpa using h1
    by_cases h2 : k = 2
    · subst h2
      have hm : Hid (M.sized 2 s = M.inn s 1 4) := by
        unfold Hid M.sized
        by_cases h : 1 ≤ s ∧ s ≤ 4
        · rw [Bo.t (by omega), M.inn_t h.1 h.2]
        · rw [Bo.f (by omega), M.inn_f h]
      clear h1 h1'
      go_enter Tryz.func136, Tryz.ntmps136
      go_wp2_with (go_at_call 83; refine (impl_in _ _ _ _).mono ?_; rintro e w' ⟨rfl, rfl⟩)
      go_ret
      exact ⟨by rw [hm.out]; rfl, rfl⟩
    · have h2' : (k == 2) = false := by simpa using h2
      by_cases h3 : k = 3
      · subst h3
        have hm : Hid (M.sized 3 s = M.inn s 1 4) := by
          unfold Hid M.sized
          by_cases h : 1 ≤ s ∧ s ≤ 4
          · rw [Bo.t (by omega), M.inn_t h.1 h.2]
          · rw [Bo.f (by omega), M.inn_f h]
        clear h1 h1' h2 h2'
        go_enter Tryz.func136, Tryz.ntmps136
        go_wp2_with (go_at_call 83; refine (impl_in _ _ _ _).mono ?_; rintro e w' ⟨rfl, rfl⟩)
        go_ret
        exact ⟨by rw [hm.out]; rfl, rfl⟩
      · have h3' : (k == 3) = false := by simpa using h3
        have hm : Hid (M.sized k s = false) := Lib.hid (Bo.f (by omega))
        clear h1 h2 h3
        go_enter Tryz.func136, Tryz.ntmps136
        go_wp2
        go_ret
        exact ⟨by rw [hm.out]; rfl, rfl⟩
end Sk

