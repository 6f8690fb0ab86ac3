/- Contracts of functions of the given program, and lemmas for them: each theorem states the condition under which it holds. -/
import Derived.Test.YtpegmdigobmjeaaChecked
import Derived.ChangeArms
import Derived.Test.YtpegmdigobmjeaaRead
import Derived.Test.YtpegmdigobmjeaaTypes
namespace Sk
open Go Go.Proofs Go.RowKit Go.ChangeShapes Go.WideShapes Go.ChangeAt Go.Deep
set_option maxRecDepth 100000
set_option linter.unusedVariables false
theorem rd_int : Rdr Try.prog 3 Int := .int Try.underlying3 (by kernel_rfl)
theorem rd_bool : Rdr Try.prog 4 Bool := .bool Try.underlying4 (by kernel_rfl)
theorem rd_BoolS : Rdr Try.prog 85 (List Bool) := .slice rd_bool Try.underlying85 (by kernel_rfl)
theorem rd_BoolSS : Rdr Try.prog 42 (List (List Bool)) := .slice rd_BoolS Try.underlying42 (by kernel_rfl)
theorem rd_Window : Rdr Try.prog 142 Window := by
  refine ⟨by kernel_rfl, fun {H enc w base spare held fuel cs x} h => ?_⟩
  obtain ⟨ys, n, _, rfl, hl, hlen, hf⟩ := DataW.trod_struct Try.underlying142 h
  rw [show Try.prog.cellsOf 142 = 3 by kernel_rfl] at hl
  match cs, hl with
  | [c0, c1, c2], _ =>
    match ys, hlen with
    | [y0, y1, y2], _ =>
      have k0 : DataW.trod enc Try.prog w base spare held n 3 (([c0, c1, c2].drop 0).take (Try.prog.cellsOf 3)) = some y0 := hf 0 _ rfl
      rw [rd_int.cells] at k0
      obtain ⟨x0, F0, e0⟩ := rd_int.rd (x := y0) k0
      have k1 : DataW.trod enc Try.prog w base spare held n 3 (([c0, c1, c2].drop 1).take (Try.prog.cellsOf 3)) = some y1 := hf 1 _ rfl
      rw [rd_int.cells] at k1
      obtain ⟨x1, F1, e1⟩ := rd_int.rd (x := y1) k1
      have k2 : DataW.trod enc Try.prog w base spare held n 4 (([c0, c1, c2].drop 2).take (Try.prog.cellsOf 4)) = some y2 := hf 2 _ rfl
      rw [rd_bool.cells] at k2
      obtain ⟨x2, F2, e2⟩ := rd_bool.rd (x := y2) k2
      obtain ⟨q0, r0, rfl⟩ := e0; cases q0
      obtain ⟨q1, r1, rfl⟩ := e1; cases q1
      obtain ⟨q2, rfl⟩ := e2; cases q2
      exact ⟨⟨x0, x1, x2⟩, _, rfl, r0, r1, rfl⟩
theorem rd_WindowS : Rdr Try.prog 113 (List Window) := .slice rd_Window Try.underlying113 (by kernel_rfl)
theorem rd_Part : Rdr Try.prog 115 Part := by
  refine ⟨by kernel_rfl, fun {H enc w base spare held fuel cs x} h => ?_⟩
  obtain ⟨ys, n, _, rfl, hl, hlen, hf⟩ := DataW.trod_struct Try.underlying115 h
  rw [show Try.prog.cellsOf 115 = 2 by kernel_rfl] at hl
  match cs, hl with
  | [c0, c1], _ =>
    match ys, hlen with
    | [y0, y1], _ =>
      have k0 : DataW.trod enc Try.prog w base spare held n 113 (([c0, c1].drop 0).take (Try.prog.cellsOf 113)) = some y0 := hf 0 _ rfl
      rw [rd_WindowS.cells] at k0
      obtain ⟨x0, F0, e0⟩ := rd_WindowS.rd (x := y0) k0
      have k1 : DataW.trod enc Try.prog w base spare held n 3 (([c0, c1].drop 1).take (Try.prog.cellsOf 3)) = some y1 := hf 1 _ rfl
      rw [rd_int.cells] at k1
      obtain ⟨x1, F1, e1⟩ := rd_int.rd (x := y1) k1
      obtain ⟨v0, q0, h0⟩ := e0; cases q0
      obtain ⟨q1, r1, rfl⟩ := e1; cases q1
      exact ⟨⟨x0, x1⟩, _, _, rfl, h0, r1⟩
theorem rd_PartS : Rdr Try.prog 36 (List Part) := .slice rd_Part Try.underlying36 (by kernel_rfl)
theorem rd_Channel : Rdr Try.prog 119 Channel := by
  refine ⟨by kernel_rfl, fun {H enc w base spare held fuel cs x} h => ?_⟩
  obtain ⟨ys, n, _, rfl, hl, hlen, hf⟩ := DataW.trod_struct Try.underlying119 h
  rw [show Try.prog.cellsOf 119 = 4 by kernel_rfl] at hl
  match cs, hl with
  | [c0, c1, c2, c3], _ =>
    match ys, hlen with
    | [y0, y1, y2, y3], _ =>
      have k0 : DataW.trod enc Try.prog w base spare held n 3 (([c0, c1, c2, c3].drop 0).take (Try.prog.cellsOf 3)) = some y0 := hf 0 _ rfl
      rw [rd_int.cells] at k0
      obtain ⟨x0, F0, e0⟩ := rd_int.rd (x := y0) k0
      have k1 : DataW.trod enc Try.prog w base spare held n 3 (([c0, c1, c2, c3].drop 1).take (Try.prog.cellsOf 3)) = some y1 := hf 1 _ rfl
      rw [rd_int.cells] at k1
      obtain ⟨x1, F1, e1⟩ := rd_int.rd (x := y1) k1
      have k2 : DataW.trod enc Try.prog w base spare held n 3 (([c0, c1, c2, c3].drop 2).take (Try.prog.cellsOf 3)) = some y2 := hf 2 _ rfl
      rw [rd_int.cells] at k2
      obtain ⟨x2, F2, e2⟩ := rd_int.rd (x := y2) k2
      have k3 : DataW.trod enc Try.prog w base spare held n 3 (([c0, c1, c2, c3].drop 3).take (Try.prog.cellsOf 3)) = some y3 := hf 3 _ rfl
      rw [rd_int.cells] at k3
      obtain ⟨x3, F3, e3⟩ := rd_int.rd (x := y3) k3
      obtain ⟨q0, r0, rfl⟩ := e0; cases q0
      obtain ⟨q1, r1, rfl⟩ := e1; cases q1
      obtain ⟨q2, r2, rfl⟩ := e2; cases q2
      obtain ⟨q3, r3, rfl⟩ := e3; cases q3
      exact ⟨⟨x0, x1, x2, x3⟩, _, rfl, r0, r1, r2, r3, rfl⟩
theorem rd_ChannelS : Rdr Try.prog 37 (List Channel) := .slice rd_Channel Try.underlying37 (by kernel_rfl)
theorem rd_Slot : Rdr Try.prog 121 Slot := by
  refine ⟨by kernel_rfl, fun {H enc w base spare held fuel cs x} h => ?_⟩
  obtain ⟨ys, n, _, rfl, hl, hlen, hf⟩ := DataW.trod_struct Try.underlying121 h
  rw [show Try.prog.cellsOf 121 = 2 by kernel_rfl] at hl
  match cs, hl with
  | [c0, c1], _ =>
    match ys, hlen with
    | [y0, y1], _ =>
      have k0 : DataW.trod enc Try.prog w base spare held n 3 (([c0, c1].drop 0).take (Try.prog.cellsOf 3)) = some y0 := hf 0 _ rfl
      rw [rd_int.cells] at k0
      obtain ⟨x0, F0, e0⟩ := rd_int.rd (x := y0) k0
      have k1 : DataW.trod enc Try.prog w base spare held n 3 (([c0, c1].drop 1).take (Try.prog.cellsOf 3)) = some y1 := hf 1 _ rfl
      rw [rd_int.cells] at k1
      obtain ⟨x1, F1, e1⟩ := rd_int.rd (x := y1) k1
      obtain ⟨q0, r0, rfl⟩ := e0; cases q0
      obtain ⟨q1, r1, rfl⟩ := e1; cases q1
      exact ⟨⟨x0, x1⟩, _, rfl, r0, r1, rfl⟩
theorem rd_SlotS : Rdr Try.prog 38 (List Slot) := .slice rd_Slot Try.underlying38 (by kernel_rfl)
theorem rd_Setup : Rdr Try.prog 40 Setup := by
  refine ⟨by kernel_rfl, fun {H enc w base spare held fuel cs x} h => ?_⟩
  obtain ⟨ys, n, _, rfl, hl, hlen, hf⟩ := DataW.trod_struct Try.underlying40 h
  rw [show Try.prog.cellsOf 40 = 3 by kernel_rfl] at hl
  match cs, hl with
  | [c0, c1, c2], _ =>
    match ys, hlen with
    | [y0, y1, y2], _ =>
      have k0 : DataW.trod enc Try.prog w base spare held n 36 (([c0, c1, c2].drop 0).take (Try.prog.cellsOf 36)) = some y0 := hf 0 _ rfl
      rw [rd_PartS.cells] at k0
      obtain ⟨x0, F0, e0⟩ := rd_PartS.rd (x := y0) k0
      have k1 : DataW.trod enc Try.prog w base spare held n 37 (([c0, c1, c2].drop 1).take (Try.prog.cellsOf 37)) = some y1 := hf 1 _ rfl
      rw [rd_ChannelS.cells] at k1
      obtain ⟨x1, F1, e1⟩ := rd_ChannelS.rd (x := y1) k1
      have k2 : DataW.trod enc Try.prog w base spare held n 38 (([c0, c1, c2].drop 2).take (Try.prog.cellsOf 38)) = some y2 := hf 2 _ rfl
      rw [rd_SlotS.cells] at k2
      obtain ⟨x2, F2, e2⟩ := rd_SlotS.rd (x := y2) k2
      obtain ⟨v0, q0, h0⟩ := e0; cases q0
      obtain ⟨v1, q1, h1⟩ := e1; cases q1
      obtain ⟨v2, q2, h2⟩ := e2; cases q2
      exact ⟨⟨x0, x1, x2⟩, _, _, _, _, _, _, _, rfl, h0, h1, h2, rfl⟩
end Sk

