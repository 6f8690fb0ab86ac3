/- Contracts of functions of the given program, and lemmas for them: each theorem states the condition under which it holds. -/
import Derived.Test.YtfenbcicnfboeaaGreatChecked
import Derived.ChangeArms
import Derived.Test.YtfenbcicnfboeaaGreatRead
import Derived.Test.YtfenbcicnfboeaaGreatTypes
namespace Sk
open Go Go.Proofs Go.RowKit Go.ChangeShapes Go.WideShapes Go.ChangeAt Go.Deep
set_option maxRecDepth 100000
set_option linter.unusedVariables false
set_option linter.unusedSimpArgs false
theorem rd_int : Rdr Tryz.prog 3 Int := .int Tryz.underlying3 (by kernel_rfl)
theorem rd_bool : Rdr Tryz.prog 4 Bool := .bool Tryz.underlying4 (by kernel_rfl)
theorem rd_IntS : Rdr Tryz.prog 35 (List Int) := .slice rd_int Tryz.underlying35 (by kernel_rfl)
theorem rd_Window : Rdr Tryz.prog 196 Window := by
 refine ⟨by kernel_rfl, fun {H enc w base spare held fuel cs x} h => ?_⟩
 obtain ⟨ys, n, _, rfl, hl, hlen, hf⟩ := DataW.trod_struct Tryz.underlying196 h
 rw [show Tryz.prog.cellsOf 196 = 3 by kernel_rfl] at hl
 match cs, hl with
 | [c0, c1, c2], _ =>
  match ys, hlen with
  | [y0, y1, y2], _ =>
   have k0 : DataW.trod enc Tryz.prog w base spare held n 3 (([c0, c1, c2].drop 0).take (Tryz.prog.cellsOf 3)) = some y0 := hf 0 _ rfl
   rw [rd_int.cells] at k0
   obtain ⟨x0, F0, e0⟩ := rd_int.rd (x := y0) k0
   have k1 : DataW.trod enc Tryz.prog w base spare held n 3 (([c0, c1, c2].drop 1).take (Tryz.prog.cellsOf 3)) = some y1 := hf 1 _ rfl
   rw [rd_int.cells] at k1
   obtain ⟨x1, F1, e1⟩ := rd_int.rd (x := y1) k1
   have k2 : DataW.trod enc Tryz.prog w base spare held n 4 (([c0, c1, c2].drop 2).take (Tryz.prog.cellsOf 4)) = some y2 := hf 2 _ rfl
   rw [rd_bool.cells] at k2
   obtain ⟨x2, F2, e2⟩ := rd_bool.rd (x := y2) k2
   obtain ⟨q0, r0, rfl⟩ := e0; cases q0
   obtain ⟨q1, r1, rfl⟩ := e1; cases q1
   obtain ⟨q2, rfl⟩ := e2; cases q2
   exact ⟨⟨x0, x1, x2⟩, _, rfl, r0, r1, rfl⟩
theorem rd_WindowS : Rdr Tryz.prog 161 (List Window) := .slice rd_Window Tryz.underlying161 (by kernel_rfl)
theorem rd_Part : Rdr Tryz.prog 163 Part := by
 refine ⟨by kernel_rfl, fun {H enc w base spare held fuel cs x} h => ?_⟩
 obtain ⟨ys, n, _, rfl, hl, hlen, hf⟩ := DataW.trod_struct Tryz.underlying163 h
 rw [show Tryz.prog.cellsOf 163 = 2 by kernel_rfl] at hl
 match cs, hl with
 | [c0, c1], _ =>
  match ys, hlen with
  | [y0, y1], _ =>
   have k0 : DataW.trod enc Tryz.prog w base spare held n 161 (([c0, c1].drop 0).take (Tryz.prog.cellsOf 161)) = some y0 := hf 0 _ rfl
   rw [rd_WindowS.cells] at k0
   obtain ⟨x0, F0, e0⟩ := rd_WindowS.rd (x := y0) k0
   have k1 : DataW.trod enc Tryz.prog w base spare held n 3 (([c0, c1].drop 1).take (Tryz.prog.cellsOf 3)) = some y1 := hf 1 _ rfl
   rw [rd_int.cells] at k1
   obtain ⟨x1, F1, e1⟩ := rd_int.rd (x := y1) k1
   obtain ⟨v0, q0, h0⟩ := e0; cases q0
   obtain ⟨q1, r1, rfl⟩ := e1; cases q1
   exact ⟨⟨x0, x1⟩, _, _, rfl, h0, r1⟩
theorem rd_PartS : Rdr Tryz.prog 22 (List Part) := .slice rd_Part Tryz.underlying22 (by kernel_rfl)
theorem rd_Channel : Rdr Tryz.prog 169 Channel := by
 refine ⟨by kernel_rfl, fun {H enc w base spare held fuel cs x} h => ?_⟩
 obtain ⟨ys, n, _, rfl, hl, hlen, hf⟩ := DataW.trod_struct Tryz.underlying169 h
 rw [show Tryz.prog.cellsOf 169 = 4 by kernel_rfl] at hl
 match cs, hl with
 | [c0, c1, c2, c3], _ =>
  match ys, hlen with
  | [y0, y1, y2, y3], _ =>
   have k0 : DataW.trod enc Tryz.prog w base spare held n 3 (([c0, c1, c2, c3].drop 0).take (Tryz.prog.cellsOf 3)) = some y0 := hf 0 _ rfl
   rw [rd_int.cells] at k0
   obtain ⟨x0, F0, e0⟩ := rd_int.rd (x := y0) k0
   have k1 : DataW.trod enc Tryz.prog w base spare held n 3 (([c0, c1, c2, c3].drop 1).take (Tryz.prog.cellsOf 3)) = some y1 := hf 1 _ rfl
   rw [rd_int.cells] at k1
   obtain ⟨x1, F1, e1⟩ := rd_int.rd (x := y1) k1
   have k2 : DataW.trod enc Tryz.prog w base spare held n 3 (([c0, c1, c2, c3].drop 2).take (Tryz.prog.cellsOf 3)) = some y2 := hf 2 _ rfl
   rw [rd_int.cells] at k2
   obtain ⟨x2, F2, e2⟩ := rd_int.rd (x := y2) k2
   have k3 : DataW.trod enc Tryz.prog w base spare held n 3 (([c0, c1, c2, c3].drop 3).take (Tryz.prog.cellsOf 3)) = some y3 := hf 3 _ rfl
   rw [rd_int.cells] at k3
   obtain ⟨x3, F3, e3⟩ := rd_int.rd (x := y3) k3
   obtain ⟨q0, r0, rfl⟩ := e0; cases q0
   obtain ⟨q1, r1, rfl⟩ := e1; cases q1
   obtain ⟨q2, r2, rfl⟩ := e2; cases q2
   obtain ⟨q3, r3, rfl⟩ := e3; cases q3
   exact ⟨⟨x0, x1, x2, x3⟩, _, rfl, r0, r1, r2, r3, rfl⟩
theorem rd_ChannelS : Rdr Tryz.prog 23 (List Channel) := .slice rd_Channel Tryz.underlying23 (by kernel_rfl)
theorem rd_Slot : Rdr Tryz.prog 173 Slot := by
 refine ⟨by kernel_rfl, fun {H enc w base spare held fuel cs x} h => ?_⟩
 obtain ⟨ys, n, _, rfl, hl, hlen, hf⟩ := DataW.trod_struct Tryz.underlying173 h
 rw [show Tryz.prog.cellsOf 173 = 2 by kernel_rfl] at hl
 match cs, hl with
 | [c0, c1], _ =>
  match ys, hlen with
  | [y0, y1], _ =>
   have k0 : DataW.trod enc Tryz.prog w base spare held n 3 (([c0, c1].drop 0).take (Tryz.prog.cellsOf 3)) = some y0 := hf 0 _ rfl
   rw [rd_int.cells] at k0
   obtain ⟨x0, F0, e0⟩ := rd_int.rd (x := y0) k0
   have k1 : DataW.trod enc Tryz.prog w base spare held n 3 (([c0, c1].drop 1).take (Tryz.prog.cellsOf 3)) = some y1 := hf 1 _ rfl
   rw [rd_int.cells] at k1
   obtain ⟨x1, F1, e1⟩ := rd_int.rd (x := y1) k1
   obtain ⟨q0, r0, rfl⟩ := e0; cases q0
   obtain ⟨q1, r1, rfl⟩ := e1; cases q1
   exact ⟨⟨x0, x1⟩, _, rfl, r0, r1, rfl⟩
theorem rd_SlotS : Rdr Tryz.prog 24 (List Slot) := .slice rd_Slot Tryz.underlying24 (by kernel_rfl)
theorem rd_Setup : Rdr Tryz.prog 26 Setup := by
 refine ⟨by kernel_rfl, fun {H enc w base spare held fuel cs x} h => ?_⟩
 obtain ⟨ys, n, _, rfl, hl, hlen, hf⟩ := DataW.trod_struct Tryz.underlying26 h
 rw [show Tryz.prog.cellsOf 26 = 3 by kernel_rfl] at hl
 match cs, hl with
 | [c0, c1, c2], _ =>
  match ys, hlen with
  | [y0, y1, y2], _ =>
   have k0 : DataW.trod enc Tryz.prog w base spare held n 22 (([c0, c1, c2].drop 0).take (Tryz.prog.cellsOf 22)) = some y0 := hf 0 _ rfl
   rw [rd_PartS.cells] at k0
   obtain ⟨x0, F0, e0⟩ := rd_PartS.rd (x := y0) k0
   have k1 : DataW.trod enc Tryz.prog w base spare held n 23 (([c0, c1, c2].drop 1).take (Tryz.prog.cellsOf 23)) = some y1 := hf 1 _ rfl
   rw [rd_ChannelS.cells] at k1
   obtain ⟨x1, F1, e1⟩ := rd_ChannelS.rd (x := y1) k1
   have k2 : DataW.trod enc Tryz.prog w base spare held n 24 (([c0, c1, c2].drop 2).take (Tryz.prog.cellsOf 24)) = some y2 := hf 2 _ rfl
   rw [rd_SlotS.cells] at k2
   obtain ⟨x2, F2, e2⟩ := rd_SlotS.rd (x := y2) k2
   obtain ⟨v0, q0, h0⟩ := e0; cases q0
   obtain ⟨v1, q1, h1⟩ := e1; cases q1
   obtain ⟨v2, q2, h2⟩ := e2; cases q2
   exact ⟨⟨x0, x1, x2⟩, _, _, _, _, _, _, _, rfl, h0, h1, h2, rfl⟩
theorem rd_Order : Rdr Tryz.prog 175 Order := by
 refine ⟨by kernel_rfl, fun {H enc w base spare held fuel cs x} h => ?_⟩
 obtain ⟨ys, n, _, rfl, hl, hlen, hf⟩ := DataW.trod_struct Tryz.underlying175 h
 rw [show Tryz.prog.cellsOf 175 = 3 by kernel_rfl] at hl
 match cs, hl with
 | [c0, c1, c2], _ =>
  match ys, hlen with
  | [y0, y1, y2], _ =>
   have k0 : DataW.trod enc Tryz.prog w base spare held n 3 (([c0, c1, c2].drop 0).take (Tryz.prog.cellsOf 3)) = some y0 := hf 0 _ rfl
   rw [rd_int.cells] at k0
   obtain ⟨x0, F0, e0⟩ := rd_int.rd (x := y0) k0
   have k1 : DataW.trod enc Tryz.prog w base spare held n 3 (([c0, c1, c2].drop 1).take (Tryz.prog.cellsOf 3)) = some y1 := hf 1 _ rfl
   rw [rd_int.cells] at k1
   obtain ⟨x1, F1, e1⟩ := rd_int.rd (x := y1) k1
   have k2 : DataW.trod enc Tryz.prog w base spare held n 3 (([c0, c1, c2].drop 2).take (Tryz.prog.cellsOf 3)) = some y2 := hf 2 _ rfl
   rw [rd_int.cells] at k2
   obtain ⟨x2, F2, e2⟩ := rd_int.rd (x := y2) k2
   obtain ⟨q0, r0, rfl⟩ := e0; cases q0
   obtain ⟨q1, r1, rfl⟩ := e1; cases q1
   obtain ⟨q2, r2, rfl⟩ := e2; cases q2
   exact ⟨⟨x0, x1, x2⟩, _, rfl, r0, r1, r2, rfl⟩
theorem rd_OrderS : Rdr Tryz.prog 123 (List Order) := .slice rd_Order Tryz.underlying123 (by kernel_rfl)
theorem rd_OrderSS : Rdr Tryz.prog 27 (List (List Order)) := .slice rd_OrderS Tryz.underlying27 (by kernel_rfl)
theorem rd_Core : Rdr Tryz.prog 125 Core := by
 refine ⟨by kernel_rfl, fun {H enc w base spare held fuel cs x} h => ?_⟩
 obtain ⟨ys, n, _, rfl, hl, hlen, hf⟩ := DataW.trod_struct Tryz.underlying125 h
 rw [show Tryz.prog.cellsOf 125 = 3 by kernel_rfl] at hl
 match cs, hl with
 | [c0, c1, c2], _ =>
  match ys, hlen with
  | [y0, y1, y2], _ =>
   have k0 : DataW.trod enc Tryz.prog w base spare held n 35 (([c0, c1, c2].drop 0).take (Tryz.prog.cellsOf 35)) = some y0 := hf 0 _ rfl
   rw [rd_IntS.cells] at k0
   obtain ⟨x0, F0, e0⟩ := rd_IntS.rd (x := y0) k0
   have k1 : DataW.trod enc Tryz.prog w base spare held n 3 (([c0, c1, c2].drop 1).take (Tryz.prog.cellsOf 3)) = some y1 := hf 1 _ rfl
   rw [rd_int.cells] at k1
   obtain ⟨x1, F1, e1⟩ := rd_int.rd (x := y1) k1
   have k2 : DataW.trod enc Tryz.prog w base spare held n 4 (([c0, c1, c2].drop 2).take (Tryz.prog.cellsOf 4)) = some y2 := hf 2 _ rfl
   rw [rd_bool.cells] at k2
   obtain ⟨x2, F2, e2⟩ := rd_bool.rd (x := y2) k2
   obtain ⟨v0, q0, h0⟩ := e0; cases q0
   obtain ⟨q1, r1, rfl⟩ := e1; cases q1
   obtain ⟨q2, rfl⟩ := e2; cases q2
   exact ⟨⟨x0, x1, x2⟩, _, _, rfl, h0, r1⟩
theorem rd_CoreS : Rdr Tryz.prog 28 (List Core) := .slice rd_Core Tryz.underlying28 (by kernel_rfl)
theorem rd_Hold : Rdr Tryz.prog 127 Hold := by
 refine ⟨by kernel_rfl, fun {H enc w base spare held fuel cs x} h => ?_⟩
 obtain ⟨ys, n, _, rfl, hl, hlen, hf⟩ := DataW.trod_struct Tryz.underlying127 h
 rw [show Tryz.prog.cellsOf 127 = 1 by kernel_rfl] at hl
 match cs, hl with
 | [c0], _ =>
  match ys, hlen with
  | [y0], _ =>
   have k0 : DataW.trod enc Tryz.prog w base spare held n 35 (([c0].drop 0).take (Tryz.prog.cellsOf 35)) = some y0 := hf 0 _ rfl
   rw [rd_IntS.cells] at k0
   obtain ⟨x0, F0, e0⟩ := rd_IntS.rd (x := y0) k0
   obtain ⟨v0, q0, h0⟩ := e0; cases q0
   exact ⟨⟨x0⟩, _, _, rfl, h0⟩
theorem rd_HoldS : Rdr Tryz.prog 29 (List Hold) := .slice rd_Hold Tryz.underlying29 (by kernel_rfl)
theorem rd_Machine : Rdr Tryz.prog 31 Machine := by
 refine ⟨by kernel_rfl, fun {H enc w base spare held fuel cs x} h => ?_⟩
 obtain ⟨ys, n, _, rfl, hl, hlen, hf⟩ := DataW.trod_struct Tryz.underlying31 h
 rw [show Tryz.prog.cellsOf 31 = 7 by kernel_rfl] at hl
 match cs, hl with
 | [c0, c1, c2, c3, c4, c5, c6], _ =>
  match ys, hlen with
  | [y0, y1, y2, y3, y4], _ =>
   have k0 : DataW.trod enc Tryz.prog w base spare held n 26 (([c0, c1, c2, c3, c4, c5, c6].drop 0).take (Tryz.prog.cellsOf 26)) = some y0 := hf 0 _ rfl
   rw [rd_Setup.cells] at k0
   obtain ⟨x0, F0, e0⟩ := rd_Setup.rd (x := y0) k0
   have k1 : DataW.trod enc Tryz.prog w base spare held n 27 (([c0, c1, c2, c3, c4, c5, c6].drop 3).take (Tryz.prog.cellsOf 27)) = some y1 := hf 1 _ rfl
   rw [rd_OrderSS.cells] at k1
   obtain ⟨x1, F1, e1⟩ := rd_OrderSS.rd (x := y1) k1
   have k2 : DataW.trod enc Tryz.prog w base spare held n 28 (([c0, c1, c2, c3, c4, c5, c6].drop 4).take (Tryz.prog.cellsOf 28)) = some y2 := hf 2 _ rfl
   rw [rd_CoreS.cells] at k2
   obtain ⟨x2, F2, e2⟩ := rd_CoreS.rd (x := y2) k2
   have k3 : DataW.trod enc Tryz.prog w base spare held n 29 (([c0, c1, c2, c3, c4, c5, c6].drop 5).take (Tryz.prog.cellsOf 29)) = some y3 := hf 3 _ rfl
   rw [rd_HoldS.cells] at k3
   obtain ⟨x3, F3, e3⟩ := rd_HoldS.rd (x := y3) k3
   have k4 : DataW.trod enc Tryz.prog w base spare held n 3 (([c0, c1, c2, c3, c4, c5, c6].drop 6).take (Tryz.prog.cellsOf 3)) = some y4 := hf 4 _ rfl
   rw [rd_int.cells] at k4
   obtain ⟨x4, F4, e4⟩ := rd_int.rd (x := y4) k4
   obtain ⟨v0, v1, v2, G0, G1, G2, q0, h0, h1, h2, rfl⟩ := e0; cases q0
   obtain ⟨v3, q1, h3⟩ := e1; cases q1
   obtain ⟨v4, q2, h4⟩ := e2; cases q2
   obtain ⟨v5, q3, h5⟩ := e3; cases q3
   obtain ⟨q4, r6, rfl⟩ := e4; cases q4
   exact ⟨⟨x0, x1, x2, x3, x4⟩, _, _, _, _, _, _, _, _, _, _, _, _, _, rfl, h0, h1, h2, h3, h4, h5, r6, rfl⟩
theorem rd_Health : Rdr Tryz.prog 102 Health := by
 refine ⟨by kernel_rfl, fun {H enc w base spare held fuel cs x} h => ?_⟩
 obtain ⟨ys, n, _, rfl, hl, hlen, hf⟩ := DataW.trod_struct Tryz.underlying102 h
 rw [show Tryz.prog.cellsOf 102 = 2 by kernel_rfl] at hl
 match cs, hl with
 | [c0, c1], _ =>
  match ys, hlen with
  | [y0, y1], _ =>
   have k0 : DataW.trod enc Tryz.prog w base spare held n 4 (([c0, c1].drop 0).take (Tryz.prog.cellsOf 4)) = some y0 := hf 0 _ rfl
   rw [rd_bool.cells] at k0
   obtain ⟨x0, F0, e0⟩ := rd_bool.rd (x := y0) k0
   have k1 : DataW.trod enc Tryz.prog w base spare held n 3 (([c0, c1].drop 1).take (Tryz.prog.cellsOf 3)) = some y1 := hf 1 _ rfl
   rw [rd_int.cells] at k1
   obtain ⟨x1, F1, e1⟩ := rd_int.rd (x := y1) k1
   obtain ⟨q0, rfl⟩ := e0; cases q0
   obtain ⟨q1, r1, rfl⟩ := e1; cases q1
   exact ⟨⟨x0, x1⟩, _, rfl, r1, rfl⟩
theorem rd_HealthS : Rdr Tryz.prog 32 (List Health) := .slice rd_Health Tryz.underlying32 (by kernel_rfl)
theorem rd_Watch : Rdr Tryz.prog 34 Watch := by
 refine ⟨by kernel_rfl, fun {H enc w base spare held fuel cs x} h => ?_⟩
 obtain ⟨ys, n, _, rfl, hl, hlen, hf⟩ := DataW.trod_struct Tryz.underlying34 h
 rw [show Tryz.prog.cellsOf 34 = 8 by kernel_rfl] at hl
 match cs, hl with
 | [c0, c1, c2, c3, c4, c5, c6, c7], _ =>
  match ys, hlen with
  | [y0, y1], _ =>
   have k0 : DataW.trod enc Tryz.prog w base spare held n 31 (([c0, c1, c2, c3, c4, c5, c6, c7].drop 0).take (Tryz.prog.cellsOf 31)) = some y0 := hf 0 _ rfl
   rw [rd_Machine.cells] at k0
   obtain ⟨x0, F0, e0⟩ := rd_Machine.rd (x := y0) k0
   have k1 : DataW.trod enc Tryz.prog w base spare held n 32 (([c0, c1, c2, c3, c4, c5, c6, c7].drop 7).take (Tryz.prog.cellsOf 32)) = some y1 := hf 1 _ rfl
   rw [rd_HealthS.cells] at k1
   obtain ⟨x1, F1, e1⟩ := rd_HealthS.rd (x := y1) k1
   obtain ⟨v0, v1, v2, v3, v4, v5, G0, G1, G2, G3, G4, G5, q0, h0, h1, h2, h3, h4, h5, r6, rfl⟩ := e0; cases q0
   obtain ⟨v7, q1, h7⟩ := e1; cases q1
   exact ⟨⟨x0, x1⟩, _, _, _, _, _, _, _, _, _, _, _, _, _, _, _, rfl, h0, h1, h2, h3, h4, h5, h7, r6, rfl⟩
end Sk
