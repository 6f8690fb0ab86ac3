/- Contracts of functions of the given program, and lemmas for them: each theorem states the condition under which it holds. -/
import Derived.Test.YtfenbcicnfboeaaGreatChecked
import Derived.Deep.CutBlock
import Derived.Deep.CutRange
import Derived.Test.YtfenbcicnfboeaaGreatZlWB
import Derived.Test.YtfenbcicnfboeaaGreatRst
namespace Sk
open Go Go.Proofs Go.RowKit
set_option maxHeartbeats 2000000
set_option maxRecDepth 100000
set_option linter.unusedVariables false
set_option linter.unusedSimpArgs false
theorem cell_ne2 {w : World} {A B o i j : Nat} {u0 u1 x : Value} (h : w.cell? ⟨B, o, none⟩ = some x) (hne : B ≠ A) : ((w.setCell ⟨A, i, none⟩ u0).setCell ⟨A, j, none⟩ u1).cell? ⟨B, o, none⟩ = some x :=
 (World.cell?_of_block (heap_set_ne hne)).trans ((World.cell?_of_block (heap_set_ne hne)).trans h)
theorem cell_ne2d {w : World} {A B o i j : Nat} {u0 u1 x : Value} (h : w.cell? ⟨B, o, none⟩ = some x) (hne : B ≠ A) : (((w.setCell ⟨A, i, none⟩ u0).setCell ⟨A, j, none⟩ u1).drew).cell? ⟨B, o, none⟩ = some x :=
 (World.cell?_of_block (w := (w.setCell ⟨A, i, none⟩ u0).setCell ⟨A, j, none⟩ u1) rfl).trans (cell_ne2 h hne)
theorem impl_fault (L b n : Nat) (x : Watch) (F : List Nat) (vt : Value) (t : List Int) (f : Int) (w : World) (h : Om L w b 0 x F) (ht : Rs w vt t) (hL : L ≤ w.heap.size) (hW : M.WV x) (hT : M.ht t = true) (hn : n < x.States.length) (hf : 0 ≤ f ∧ f ≤ 3) :
  Calls Tryz.prog 28 #[.pointer (some ⟨b, 0, none⟩), vt, .int .i64 n, .int .i64 f] w fun e w' => e = .returned (.int .i64 (M.wfl x t n f).2) ∧ ∃ F', M.WB L b F w w' (M.wfl x t n f).1 F' := by
 have hns := hW.ns
 have hC : n < x.Box.Cores.length := by omega
 obtain ⟨g7, s7, u7, g4, s4, u4, y7, y4⟩ := h.wcells hn hC
 have WB0 := Lib.hid (M.WB.refl h)
 have y7' := y7
 obtain ⟨k, Fy, hk, omk, hsk, _⟩ := (M.WB.refl h).st y7 hn
 obtain ⟨_, c0, c1, hrk⟩ := omk.openHe
 have gf7 := omk.bk.2.2.2
 have ltg7 := omk.bk.1
 have hb7 : b ≠ g7 := fun e => (hsk g7 (List.mem_cons_self ..)).2 e.symm
 have hlb := h.bk.1
 have hLb := h.bk.2.1
 have hhk : M.hh k = true := hW.hh k (List.mem_of_getElem? hk)
 have hgk : x.States.getD n ⟨false, 0⟩ = k := by rw [List.getD_eq_getElem?_getD, hk]; rfl
 have hRv : Hid (Rv w (.agg #[.bool k.Frozen, .int .i64 k.Restarts]) k) := Lib.hid ⟨[.bool k.Frozen, .int .i64 k.Restarts], [], rfl, rfl, hrk, rfl⟩
 have HT := Lib.hid ht
 obtain ⟨ta, tc, rfl, htl⟩ := ht.form
 have hq : x.Box.Plan.Parts[n]? = some (x.Box.Plan.Parts[n]'(by have := hW.box.nc; omega)) := List.getElem?_eq_getElem _
 generalize x.Box.Plan.Parts[n]'(by have := hW.box.nc; omega) = q at hq
 have HQ := Lib.hid hq
 have hpc := Lib.hid (show M.pc x.Box n = q.Cells by simp only [M.pc, List.getD_eq_getElem?_getD, hq, Option.getD_some])
 have hp5 := M.setv_parts hW.box.pg.set
 have hc8 := M.setv_chans hW.box.pg.set
 have hhl : x.Box.Plan.Channels.length ≤ x.Box.Holds.length := by have := hW.box.nh; omega
 have hn5 : n ≤ 5 := by have := hW.box.nc; omega
 have hact := M.aft_act (h := k) (t := t) (f := f)
 have hsr := M.aft_rng (t := t) (f := f) hhk
 have hwf : M.wfl x t n f = (⟨M.fltB x.Box n (M.aft k t f).2, x.States.set n (M.aft k t f).1⟩, (M.aft k t f).2) := by unfold M.wfl; rw [hgk]
 have HA := fun (v : Value) (w1 : World) (hv : Rv w1 v k) (e : Ext w w1) => impl_after v _ k t f w1 hv (HT.out.ext e) hhk hT hf
 obtain ⟨r, hr⟩ : ∃ r, M.aft k t f = r := ⟨_, rfl⟩
 rw [hr] at hact hsr hwf HA
 obtain ⟨s', act⟩ := r
 simp only at hact hsr hwf HA
 replace HA := Lib.hid HA
 have HWF := Lib.hid hwf
 clear h ht hW hT hf omk hsk hk hgk hq hr hwf htl hns hhk
 go_enter Tryz.func28, Tryz.ntmps28
 go_upto_region 2 with (go_at_call 57; refine (HA.out _ _ hRv.out (Ext.refl _)).mono ?_; rintro e w1 ⟨rfl, he⟩; have X1 := Lib.hid he; clear he)
 refine abs_world (fun W => Ext w W ∧ w1.heap.size < W.heap.size ∧ Bk W w1.heap.size [.bool s'.Frozen, .int .i64 s'.Restarts] 64) ⟨X1.out.tr ((Ext.refl _).alloc _), by simp, Bk.new _ _ _⟩ ?_
 rintro W2 ⟨E2, _, kQ⟩
 have E := Lib.hid E2
 have q0 := kQ.cell (j := 0) rfl
 have q1 := kQ.cell (j := 1) rfl
 have ltQ := kQ.lt
 have z7 := (cell_ext E2 hlb).trans y7
 have hQ7 : w1.heap.size ≠ g7 := by have := X1.out.sz; omega
 have ltb2 := Nat.lt_of_lt_of_le hlb E2.sz
 have lt72 := Nat.lt_of_lt_of_le ltg7 E2.sz
 have gf72 : ∀ j, W2.frozen? ⟨g7, j, none⟩ = false := fun j => (World.frozen?_of_block (E2.block g7 ltg7)).trans (gf7 j)
 have c02 := (cell_ext E2 ltg7).trans c0
 have c12 := (cell_ext E2 ltg7).trans c1
 have hnn : n < x.States.length := hn
 replace y7' := Lib.hid y7'
 clear E2 kQ y7 c0 c1 gf7 X1 HA
 have zz1 : (((W2.setCell ⟨g7, s7 + n * 2, none⟩ (.bool s'.Frozen)).setCell ⟨g7, s7 + n * 2 + 1, none⟩ (.int .i64 s'.Restarts)).drew).cell? ⟨b, 7, none⟩ = some (.slice (some ⟨g7, s7, none⟩) x.States.length u7) := cell_ne2d z7 hb7
 have zz2 : (((W2.setCell ⟨g7, s7 + n * 2, none⟩ (.bool s'.Frozen)).setCell ⟨g7, s7 + n * 2 + 1, none⟩ (.int .i64 s'.Restarts)).drew).cell? ⟨w1.heap.size, 0, none⟩ = some (.bool s'.Frozen) := cell_ne2d q0 hQ7
 have zz3 : (((W2.setCell ⟨g7, s7 + n * 2, none⟩ (.bool s'.Frozen)).setCell ⟨g7, s7 + n * 2 + 1, none⟩ (.int .i64 s'.Restarts)).drew).cell? ⟨w1.heap.size, 1, none⟩ = some (.int .i64 s'.Restarts) := cell_ne2d q1 hQ7
 go_region_held3 (fun u => u.cell? ⟨b, 7, none⟩ = some (.slice (some ⟨g7, s7, none⟩) x.States.length u7) ∧ u.cell? ⟨w1.heap.size, 0, none⟩ = some (.bool s'.Frozen) ∧ u.cell? ⟨w1.heap.size, 1, none⟩ = some (.int .i64 s'.Restarts))
  (go_keep)
  (fail)
 clear zz1 zz2 zz3
 go_upto_region 3 with (fail)
 obtain ⟨F2, wb2'⟩ := (WB0.out.ext E.out).putSt y7'.out hn s' hsr
 have wb2 := wb2'.ext (Ext.refl _).drew
 refine abs_world (fun W3 => M.WB L b F w W3 { x with States := x.States.set n s' } F2) wb2 ?_
 rintro W3 wb3
 have WB3 := Lib.hid wb3
 have z4 := (wb3.cl 4 (by decide)).trans y4
 clear wb2 wb2' wb3 z7 q0 q1 c02 c12 gf72
 rcases hact with rfl | rfl | rfl
 ·go_wp2
  go_ret
  exact ⟨ret_i (by rw [HWF.out]), _, by rw [HWF.out]; exact WB3.out⟩
 ·obtain ⟨Fm, om, _, hback⟩ := WB3.out.box
  have OM := Lib.hid om
  have HB := Lib.hid hback
  have hL3 : L ≤ W3.heap.size := Nat.le_trans hL WB3.out.ch.sz
  clear om hback
  go_wp2_with (go_at_call 58; refine (impl_restart L b n x.Box Fm q _ OM.out hL3 hC HQ.out hhl hc8 hn5).mono ?_; rintro e w10 ⟨F3, om10, ch10, sub10, ⟨vr, rfl⟩, cl10⟩; obtain ⟨F4, wb10⟩ := HB.out _ _ F3 ⟨om10, ch10, sub10, fun j _ => cl10 j⟩; have WB10 := Lib.hid wb10; clear om10 ch10 sub10 cl10 wb10)
  go_ret
  exact ⟨ret_i (by rw [HWF.out]), _, by rw [HWF.out]; show M.WB L b F w _ ⟨M.rs1 x.Box n, _⟩ _; unfold M.rs1; rw [hpc.out]; exact WB10.out⟩
 ·obtain ⟨F4, wb4⟩ := WB3.out.stop y4 hC
  obtain ⟨Fm, om, _, _⟩ := WB3.out.box
  obtain ⟨k4, Fy4, _, omc, hs4, _⟩ := (M.TB.refl om).core z4 hC
  obtain ⟨_, _, _, _, c42, _, _⟩ := omc.openC
  have gf4 := omc.bk.2.2.2
  have lt4 := omc.bk.1
  have WB4 := Lib.hid wb4
  clear wb4 om omc hs4
  go_wp2
  go_ret
  exact ⟨ret_i (by rw [HWF.out]), _, by rw [HWF.out]; exact WB4.out⟩
end Sk
