/- Contracts of functions of the given program, and lemmas for them: each theorem states the condition under which it holds. -/
import Derived.Test.YtlejdkiihpeojaaGreatChecked
import Derived.Deep.CutBlock
import Derived.Deep.CutRange
import Derived.Test.YtlejdkiihpeojaaGreatZgFgT
import Derived.Test.YtlejdkiihpeojaaGreatL18M
import Derived.Test.YtlejdkiihpeojaaGreatRst
import Derived.Test.YtlejdkiihpeojaaGreatNewT
import Derived.Test.YtlejdkiihpeojaaGreatVVModel
namespace Sk
open Go Go.Proofs Go.RowKit
set_option maxHeartbeats 4000000
set_option maxRecDepth 100000
set_option linter.unusedVariables false
set_option linter.unusedSimpArgs false
theorem cell_ne3 {w : World} {A B o i j k : Nat} {u0 u1 u2 x : Value} (h : w.cell? ⟨B, o, none⟩ = some x) (hne : B ≠ A) : (((w.setCell ⟨A, i, none⟩ u0).setCell ⟨A, j, none⟩ u1).setCell ⟨A, k, none⟩ u2).cell? ⟨B, o, none⟩ = some x :=
 (World.cell?_of_block (heap_set_ne hne)).trans ((World.cell?_of_block (heap_set_ne hne)).trans ((World.cell?_of_block (heap_set_ne hne)).trans h))
theorem spec_ForgetOthers (v : Value) (m : Machine) (n : Int) (w : World) (h : Rv w v m) :
  Calls Tryz.prog 27 #[v, .int .i64 n] w fun e w' => ∃ v', e = .returned v' ∧ Ov w.heap.size w' v' (M.forget m n) ∧ Ext w w' := by
 have H := Lib.hid h
 obtain ⟨a0, c0, a1, c1, a2, c2, a3, c3, a4, c4, a5, c5, rfl, rt, h0, l0, h1, l1, h2, l2, h3, l3, h4, l4, h5, l5⟩ := h.openMachine
 have H0 := h0; have H1 := h1
 clear h h0 h1 h2 h3 h4 h5
 go_enter Tryz.func27, Tryz.ntmps27
 go_upto_region 1 with (fail)
 refine abs_world (fun W => Ext w W ∧ Bk W w.heap.size [.slice a0 m.Plan.Parts.length c0, .slice a1 m.Plan.Channels.length c1, .slice a2 m.Plan.Slots.length c2, .slice a3 m.Programs.length c3, .slice a4 m.Cores.length c4, .slice a5 m.Holds.length c5, .int .i64 m.Tick] 42 ∧ Bk W (w.heap.size + 1) [.slice none 0 0, .slice none 0 0, .slice none 0 0, .slice none 0 0, .slice none 0 0, .slice none 0 0, .int .i64 0] 42) ⟨((Ext.refl _).alloc _).alloc _, (Bk.new _ _ _).ext ((Ext.refl _).alloc _), Bk.new1 _ _ _ _⟩ ?_
 rintro W ⟨e1, kA, kB⟩
 have HE0 := Lib.hid e1
 have d0 := kA.cell (j := 0) rfl
 have d1 := kA.cell (j := 1) rfl
 have d2 := kA.cell (j := 2) rfl
 have d3 := kA.cell (j := 3) rfl
 have d4 := kA.cell (j := 4) rfl
 have d5 := kA.cell (j := 5) rfl
 have d6 := kA.cell (j := 6) rfl
 have KA := Lib.hid kA
 have KB := Lib.hid kB
 clear e1 kA kB
 cases g : M.mv m
 ·have g0 : M.seen m n = false := by unfold M.seen; rw [g]; rfl
  go_wp2_with (go_at_call 33; refine (spec_MachineValid _ m _ (H.out.ext HE0.out)).mono ?_; rintro e w0 ⟨rfl, he⟩; rw [g]; have E := Lib.hid (HE0.out.tr he); have KAx := KA.out.ext he; have ltA := KAx.lt; have x0 := KAx.cell (j := 0) rfl; have x1 := KAx.cell (j := 1) rfl; have x2 := KAx.cell (j := 2) rfl; have x3 := KAx.cell (j := 3) rfl; have x4 := KAx.cell (j := 4) rfl; have x5 := KAx.cell (j := 5) rfl; have x6 := KAx.cell (j := 6) rfl; have KBx := KB.out.ext he; have z0 := KBx.cell (j := 0) rfl; have z1 := KBx.cell (j := 1) rfl; have z2 := KBx.cell (j := 2) rfl; have z3 := KBx.cell (j := 3) rfl; have z4 := KBx.cell (j := 4) rfl; have z5 := KBx.cell (j := 5) rfl; have z6 := KBx.cell (j := 6) rfl; have zf := KBx.fz; have ltZ := KBx.lt; clear KBx; clear he KAx)
  refine bodyPost_ret (v := .agg #[.slice none 0 0, .slice none 0 0, .slice none 0 0, .slice none 0 0, .slice none 0 0, .slice none 0 0, .int .i64 0]) (by simp [results, Tryz.results27, go_sem, z0, z1, z2, z3, z4, z5, z6]) rfl ⟨_, rfl, by rw [M.forget_f g0]; exact Ov.mz _ _, (((((((E.out).set (by simp) _).set (by simp) _).set (by simp) _).set (by simp) _).set (by simp) _).set (by simp) _).set (by simp) _⟩
 have hmv := M.mv_iff.1 g
 have hp5 := M.setv_parts hmv.pg.set
 have hc8 := M.setv_chans hmv.pg.set
 have hn5 : m.Cores.length ≤ 5 := by have := hmv.nc; omega
 have hwr : IntKind.i64.wrap ((m.Cores.length : Int) - 1) = (m.Cores.length : Int) - 1 := wrap_small (by omega) (by omega)
 cases g1 : M.inn n 0 ((m.Cores.length : Int) - 1)
 ·have g0 : M.seen m n = false := by unfold M.seen; rw [g, g1]; rfl
  go_wp2_with (first
   | (go_at_call 33; refine (spec_MachineValid _ m _ (H.out.ext HE0.out)).mono ?_; rintro e w0 ⟨rfl, he⟩; rw [g]; have E := Lib.hid (HE0.out.tr he); have KAx := KA.out.ext he; have ltA := KAx.lt; have x0 := KAx.cell (j := 0) rfl; have x1 := KAx.cell (j := 1) rfl; have x2 := KAx.cell (j := 2) rfl; have x3 := KAx.cell (j := 3) rfl; have x4 := KAx.cell (j := 4) rfl; have x5 := KAx.cell (j := 5) rfl; have x6 := KAx.cell (j := 6) rfl; have KBx := KB.out.ext he; have z0 := KBx.cell (j := 0) rfl; have z1 := KBx.cell (j := 1) rfl; have z2 := KBx.cell (j := 2) rfl; have z3 := KBx.cell (j := 3) rfl; have z4 := KBx.cell (j := 4) rfl; have z5 := KBx.cell (j := 5) rfl; have z6 := KBx.cell (j := 6) rfl; have zf := KBx.fz; have ltZ := KBx.lt; clear KBx; clear he KAx)
   | (go_at_call 59; refine (spec_In _ _ _ _).mono ?_; rintro e w9 ⟨rfl, rfl⟩; rw [g1]))
  refine bodyPost_ret (v := .agg #[.slice none 0 0, .slice none 0 0, .slice none 0 0, .slice none 0 0, .slice none 0 0, .slice none 0 0, .int .i64 0]) (by simp [results, Tryz.results27, go_sem, z0, z1, z2, z3, z4, z5, z6]) rfl ⟨_, rfl, by rw [M.forget_f g0]; exact Ov.mz _ _, (((((((E.out).set (by simp) _).set (by simp) _).set (by simp) _).set (by simp) _).set (by simp) _).set (by simp) _).set (by simp) _⟩
 obtain ⟨b1, b2⟩ := M.inn_iff.1 g1
 obtain ⟨n, rfl⟩ : ∃ k : Nat, n = k := ⟨n.toNat, by omega⟩
 have hn : n < m.Cores.length := by omega
 have gs : M.seen m n = true := by unfold M.seen; rw [g, g1]; rfl
 have htot : GT.tot m ≤ 1048576 := Nat.le_trans (M.mv_tot hmv) (by omega)
 have hres := Lib.hid (M.forget_t gs)
 have HNP : Hid (m.Programs.length = m.Cores.length) := Lib.hid (by have := hmv.pg.np; have := hmv.nc; omega)
 have HNC := Lib.hid hmv.nc
 have HNH := Lib.hid hmv.nh
 have HV := Lib.hid hmv
 have HCV : Hid (M.csv m.Plan.Channels m.Cores.length = true) := Lib.hid (by rw [hmv.nc]; exact hmv.csv)
 clear hmv gs
 go_upto_region 3 with (first
  | (go_at_call 33; refine (spec_MachineValid _ m _ (H.out.ext HE0.out)).mono ?_; rintro e w0 ⟨rfl, he⟩; rw [g]; have E := Lib.hid (HE0.out.tr he); have KAx := KA.out.ext he; have ltA := KAx.lt; have x0 := KAx.cell (j := 0) rfl; have x1 := KAx.cell (j := 1) rfl; have x2 := KAx.cell (j := 2) rfl; have x3 := KAx.cell (j := 3) rfl; have x4 := KAx.cell (j := 4) rfl; have x5 := KAx.cell (j := 5) rfl; have x6 := KAx.cell (j := 6) rfl; replace KA := Lib.hid (KA.out.ext he); replace KB := Lib.hid (KB.out.ext he); clear he KAx)
  | (go_at_call 59; refine (spec_In _ _ _ _).mono ?_; rintro e w9 ⟨rfl, rfl⟩; rw [g1]))
 have ltB0 := KB.out.lt
 go_upto_region 4 with (go_at_call 34; refine (spec_l18Copy _ m _ (H.out.ext E.out) htot).mono ?_; rintro e w5 ⟨v5, rfl, hov, ex⟩; obtain ⟨cs5, F5, rfl, hen, how⟩ := hov; obtain ⟨v0, v1, v2, v3, v4, v5, G0, G1, G2, G3, G4, G5, rfl, ⟨t0, u0, rfl, _⟩, ⟨t1, u1, rfl, _⟩, ⟨t2, u2, rfl, _⟩, ⟨t3, u3, rfl, _⟩, ⟨t4, u4, rfl, _⟩, ⟨t5, u5, rfl, _⟩, _, _⟩ := id hen; have HEN := Lib.hid hen; have HOW := Lib.hid how; have EX := Lib.hid ex; replace KB := Lib.hid (KB.out.ext ex); replace KA := Lib.hid (KA.out.ext ex); clear hen how ex)
 refine abs_world (fun W6 => Ext w5 W6 ∧ Bk W6 w5.heap.size [.slice t0 m.Plan.Parts.length u0, .slice t1 m.Plan.Channels.length u1, .slice t2 m.Plan.Slots.length u2, .slice t3 m.Programs.length u3, .slice t4 m.Cores.length u4, .slice t5 m.Holds.length u5, .int .i64 m.Tick] 42) ⟨(Ext.refl _).alloc _, Bk.new _ _ _⟩ ?_
 rintro W6 ⟨E6, K6⟩
 have hs05 := EX.out.sz
 have hw0 := E.out.sz
 have ltB5 := KB.out.lt
 have om : Om w0.heap.size W6 w5.heap.size 0 m F5 := ⟨_, GT.ext HEN.out E6, fun j u hj => by rw [Nat.zero_add]; exact K6.cell hj, List.nodup_cons.2 ⟨fun hm => Nat.lt_irrefl _ (HOW.out.lt hm), HOW.out.1⟩, fun k hk => by
  rcases List.mem_cons.1 hk with rfl | hk
  ·exact ⟨hs05, ⟨_, _, K6⟩⟩
  ·exact ⟨(HOW.out.2 k hk).1, ((HOW.out.2 k hk).2).ext E6⟩⟩
 have E7 := Lib.hid ((E.out.tr EX.out).tr E6)
 have KB6 := Lib.hid (KB.out.ext E6)
 have KA6 := Lib.hid (KA.out.ext E6)
 have HF : Hid (∀ x ∈ F5, w0.heap.size ≤ x ∧ x < w5.heap.size) := Lib.hid (fun x hx => ⟨(HOW.out.2 x hx).1, HOW.out.lt hx⟩)
 have hs6 := E6.sz
 have k3 := K6.cell (j := 3) rfl
 have k4 := K6.cell (j := 4) rfl
 have k5 := K6.cell (j := 5) rfl
 have hBlt := K6.lt
 have OM6 := Lib.hid om
 generalize hB : w5.heap.size = B at *
 have hR0 : w.heap.size + 1 < w0.heap.size := ltB0
 clear om K6 E6 HEN HOW EX KB KA hB d0 d1 d2 d3 d4 d5 d6 x0 x1 x2 x3 x4 x5 x6
 have d0 := KA6.out.cell (j := 0) rfl
 have d1 := KA6.out.cell (j := 1) rfl
 have d4 := KA6.out.cell (j := 4) rfl
 have ltA6 := KA6.out.lt
 go_upto_region 5 with (go_at_call 69; refine (spec_FlowsTo _ m.Plan.Channels m.Cores.length n _ (H1.out.ext E7.out) HCV.out hn).mono ?_; rintro e w7 ⟨v7, rfl, ofl, he7⟩; obtain ⟨fa, fc, rfl, hfl⟩ := ofl.form; have OFL := Lib.hid ofl; have EF := Lib.hid he7; clear ofl he7)
 rw [M.flows_len] at *
 have hsz7 := EF.out.sz
 have TB0 := Lib.hid (M.TB.refl (OM6.out.ext EF.out))
 have E8 := Lib.hid (E7.out.tr EF.out)
 have KB8 := Lib.hid (KB6.out.ext EF.out)
 have KA8 := Lib.hid (KA6.out.ext EF.out)
 replace k3 := (cell_ext EF.out hBlt).trans k3
 replace k4 := (cell_ext EF.out hBlt).trans k4
 replace k5 := (cell_ext EF.out hBlt).trans k5
 have hBlt7 : B < w7.heap.size := by omega
 have hL7 : w0.heap.size ≤ w7.heap.size := by omega
 obtain ⟨GF, sfl, ofw⟩ := OFL.out
 have HSL := Lib.hid sfl
 have hBG : B ∉ GF := fun hm => by have := (ofw.2 B hm).1; omega
 have hFG : Apart GF F5 := fun x h2 h1 => by have := (HF.out x h1).2; have := (ofw.2 x h2).1; omega
 have hFB : B ∉ F5 := fun hm => by have := (HF.out B hm).2; omega
 obtain ⟨FL, hFL⟩ : ∃ FL, M.flows m.Plan.Channels m.Cores.length n = FL := ⟨_, rfl⟩
 have hFN : FL.length = m.Cores.length := by rw [← hFL, M.flows_len]
 have hfd : ∀ k, M.fgf m n k = FL.getD k false := fun k => by rw [← hFL]; rfl
 rw [hFL] at HSL
 obtain ⟨f, hf⟩ : ∃ f, M.fgf m n = f := ⟨_, rfl⟩
 rw [hf] at hres hfd
 obtain ⟨g3, s3, rfl⟩ : ∃ g s, t3 = some ⟨g, s, none⟩ := by
  obtain ⟨_, _, _, ho⟩ := id TB0.out.om
  obtain ⟨Fc, lc⟩ := TB0.out.om.lMachinePrograms
  obtain ⟨g', s', _, _, e, _⟩ := (lc.om ho).idxS (by rw [show 0 + 3 = 3 from rfl]; exact k3) n (by have := HNP.out; omega)
  exact ⟨g', s', e⟩
 obtain ⟨g4, s4, rfl⟩ : ∃ g s, t4 = some ⟨g, s, none⟩ := by
  obtain ⟨_, _, _, ho⟩ := id TB0.out.om
  obtain ⟨Fc, lc⟩ := TB0.out.om.lMachineCores
  obtain ⟨g', s', _, _, e, _⟩ := (lc.om ho).idxS (by rw [show 0 + 4 = 4 from rfl]; exact k4) n hn
  exact ⟨g', s', e⟩
 have hPA : w.heap.size ∉ F5 := fun hx => by have := (HF.out _ hx).1; omega
 go_wp2_with fail
 go_loopw [7] (fun v7 wr => ∃ (k : Nat) (Fk : List Nat), k ≤ m.Cores.length ∧ v7 = .int .i64 k ∧ M.TB w0.heap.size B F5 w7 wr (M.fgS f m k) Fk) (fun v7 _ => m.Cores.length - (intOf v7).toNat)
 case atStart => exact ⟨0, _, Nat.zero_le _, rfl, TB0.out⟩
 case round =>
  obtain ⟨k, Fk, hk, rfl, tb⟩ := hrel
  have TBh := Lib.hid tb
  have hszr := tb.ch.sz
  clear tb
  by_cases hkt : k < m.Cores.length
  ·obtain ⟨fb, fo, fx, rfl, hfb, hx, hfc⟩ := Rs.atBool (⟨_, TBh.out.ch.sl HSL.out hBG hFG⟩ : Rs wr _ FL) k (by omega)
   have hfk : f k = fx := by rw [hfd, List.getD_eq_getElem?_getD, hx.out]; rfl
   obtain ⟨_, e2, e3, e4, _, _, e7, e8, _, _⟩ := M.fgI_fld f m k
   rw [e3] at e8
   rw [e4] at e7
   clear e3 e4
   cases fx
   ·have hnext := Lib.hid (show M.fgS f m (k + 1) = M.fgs1 (M.fgS f m k) k by show (if f k then _ else _) = _; rw [hfk]; rfl)
    obtain ⟨x, hxx⟩ : ∃ x, M.fgS f m k = x := ⟨_, rfl⟩
    rw [hxx] at TBh hnext e2 e7 e8
    have hkp : k < x.Programs.length := by have := HNP.out; omega
    have hkm : k < m.Programs.length := by have := HNP.out; omega
    obtain ⟨F2, tz⟩ := TBh.out.progZ (by omega) k3 hkp
    obtain ⟨_, _, _, om3, hs3, _⟩ := TBh.out.prog k3 hkp
    have gf3 := om3.bk.2.2.2
    have hg3 := om3.bk.1
    obtain ⟨v30, hv30⟩ : ∃ v, wr.cell? ⟨g3, s3 + k, none⟩ = some v := by
     obtain ⟨vs, hen, hat, _⟩ := om3
     cases vs with
     | nil => have := GT.len hen; simp [GT.sz] at this
     | cons v _ => exact ⟨v, by simpa using hat 0 v rfl⟩
    have y3 := (TBh.out.cl 3 (by decide)).trans k3
    rw [World.setCell_alloc_past _ _ _ _ hg3] at tz
    have TZ := Lib.hid tz
    have hkP : k < m.Plan.Parts.length := by have := HNC.out; omega
    obtain ⟨pb, po, q, wa, wc, rfl, hpb, hq, hp0, hp1, hr1, _, _, _⟩ := H0.out.atPart k hkP
    have hpc := Lib.hid (show M.pc x k = q.Cells by simp only [M.pc, e2, List.getD_eq_getElem?_getD, hq.out, Option.getD_some])
    have hkx : k < x.Cores.length := by omega
    clear om3 hs3 tz e8 hxx e2 e7 hp0
    go_upto_region 10 with (fail)
    refine abs_world (fun W9 => ∃ F2, M.TB w0.heap.size B F5 w7 W9 { x with Programs := x.Programs.set k [M.oz] } F2) ⟨F2, TZ.out⟩ ?_
    rintro W9 ⟨F9, t9⟩
    have T9 := Lib.hid t9
    have hs9 := t9.ch.sz
    have E9 := Lib.hid (t9.ch.ext E8.out (by omega) (fun x hx => by have := (HF.out x hx).1; omega))
    have KA9 := t9.bk KA8.out (by omega) hPA
    have a90 := KA9.cell (j := 0) rfl
    have ltA9 := KA9.lt
    have y4 := (t9.cl 4 (by decide)).trans k4
    have ltB9 := t9.lt
    have hp9 := (cell_ext E9.out hpb).trans hp1
    have hpb9 := Nat.lt_of_lt_of_le hpb E9.out.sz
    have hkx9 : k < ({ x with Programs := x.Programs.set k [M.oz] } : Machine).Cores.length := hkx
    obtain ⟨k0, Fy, ek0, omc, hsub, hback⟩ := t9.core k4 hkx9
    obtain ⟨_, _, c40, c41, c42, _, _⟩ := omc.openC
    have gf9 := omc.bk.2.2.2
    have hg4 := omc.bk.1
    have OMC := Lib.hid omc
    have HBK := Lib.hid hback
    have hBg : B ≠ g4 := fun e => (hsub g4 (List.mem_cons_self ..)).2 e.symm
    have hLg4 := omc.bk.2.1
    have hAg : w.heap.size ≠ g4 := by omega
    have hpg : pb ≠ g4 := by omega
    obtain ⟨kc, hkc⟩ : ∃ kc, M.newCore q.Cells = kc := ⟨_, rfl⟩
    clear t9 TZ hsub omc hback KA9 ek0 y3 gf3 hv30 hfc
    go_region_held3 (fun u => u.cell? ⟨B, 4, none⟩ = some (.slice (some ⟨g4, s4, none⟩) m.Cores.length u4) ∧ u.cell? ⟨w.heap.size, 0, none⟩ = some (.slice (some ⟨pb, po, none⟩) m.Plan.Parts.length c0) ∧ u.cell? ⟨pb, po + k * 2 + 1, none⟩ = some (.int .i64 q.Cells))
     (first
      | go_keep
      | exact ⟨(cell_ext XX.out ltB9).trans y4, (cell_ext XX.out ltA9).trans a90, (cell_ext XX.out hpb9).trans hp9⟩
      | exact ⟨cell_ne3 ((cell_ext XX.out ltB9).trans y4) hBg, cell_ne3 ((cell_ext XX.out ltA9).trans a90) hAg, cell_ne3 ((cell_ext XX.out hpb9).trans hp9) hpg⟩)
     ((go_at_call 70; refine (spec_NewCore q.Cells _).mono ?_; rintro e w11 ⟨v11, rfl, hov, he⟩; rw [hkc] at hov; obtain ⟨cs11, FN, rfl, en11, ow11⟩ := hov; obtain ⟨v0', rfl, s1, _⟩ := id en11; obtain ⟨p9, q9, rfl, _⟩ := id s1; have XX : Hid (Ext W9 w11) := Lib.hid ((Ext.refl _).drew.tr he); have EN := Lib.hid en11; have OWN := Lib.hid ow11; replace c40 := (cell_ext XX.out hg4).trans c40; replace c41 := (cell_ext XX.out hg4).trans c41; replace c42 := (cell_ext XX.out hg4).trans c42; replace gf9 := (OMC.out.ext XX.out).bk.2.2.2; have ltg := (OMC.out.ext XX.out).bk.1; clear he en11 ow11 s1))
    obtain ⟨pc1, pc2, pc3⟩ := OMC.out.putCore XX.out (M := W9.heap.size) (by omega) (Nat.le_refl _) EN.out OWN.out
    obtain ⟨F4, t10⟩ := HBK.out _ _ _ pc1 pc2 (fun z hz => .inr (pc3 z hz))
    go_wp2_with fail
    go_roundw
    case rel => exact ⟨k + 1, F4, by omega, by go_num, by rw [hnext.out, M.fgs1, hpc.out, hkc]; exact t10⟩
    case measure => simp [intOf]; omega
   ·have hnext := Lib.hid (show M.fgS f m (k + 1) = M.fgS f m k by show (if f k then _ else _) = _; rw [hfk]; rfl)
    clear e2 e7 e8
    go_wp2
    go_roundw
    case rel => exact ⟨k + 1, Fk, by omega, by go_num, by rw [hnext.out]; exact TBh.out⟩
    case measure => simp [intOf]; omega
  ·obtain rfl : k = m.Cores.length := by omega
   have h10 := (M.fgI_fld f m m.Cores.length).2.2.2.2.2.2.2.2.2
   have hres2 := Lib.hid (hres.out.trans (M.fg_eq HV.out f).symm)
   obtain ⟨X, hX⟩ : ∃ X, M.fgS f m m.Cores.length = X := ⟨_, rfl⟩
   rw [hX] at h10 hres2 TBh
   have TB1 : Hid (M.TB w0.heap.size B F5 w7 wr { X with Holds := M.fgH f m.Plan.Channels m.Holds 0 } Fk) := Lib.hid (by
    have : ({ X with Holds := M.fgH f m.Plan.Channels m.Holds 0 } : Machine) = X := by show ({ X with Holds := m.Holds } : Machine) = X; rw [← h10]
    rw [this]; exact TBh.out)
   have h5 := (TBh.out.cl 5 (by decide)).trans k5
   obtain ⟨wa, rfl⟩ : ∃ wa : World, wa = wr := ⟨_, rfl⟩
   clear hres h10 hX TBh hszr
   replace hres := hres2
   clear hres2
   go_wp2
   go_loopw [8] (fun v8 wr => ∃ (j : Nat) (Fj : List Nat), j ≤ m.Holds.length ∧ v8 = .int .i64 j ∧ M.TB w0.heap.size B F5 w7 wr { X with Holds := M.fgH f m.Plan.Channels m.Holds j } Fj) (fun v8 _ => m.Holds.length - (intOf v8).toNat)
   case atStart => exact ⟨0, _, Nat.zero_le _, rfl, TB1.out⟩
   case round =>
    clear h5 TB1
    obtain ⟨j, Fk, hj, rfl, tb⟩ := hrel
    have TBh := Lib.hid tb
    have hszr := tb.ch.sz
    have y5' := (tb.cl 5 (by decide)).trans k5
    clear tb
    by_cases hjt : j < m.Holds.length
    ·have hjl : j < ({ X with Holds := M.fgH f m.Plan.Channels m.Holds j } : Machine).Holds.length := by show j < (M.fgH f m.Plan.Channels m.Holds j).length; rw [M.fgH_len]; exact hjt
     obtain ⟨g5, s5, rfl⟩ : ∃ g s, t5 = some ⟨g, s, none⟩ := by
      obtain ⟨_, _, _, ho⟩ := id TBh.out.om
      obtain ⟨Fc, lc⟩ := TBh.out.om.lMachineHolds
      obtain ⟨g', s', _, _, e, _⟩ := (lc.om ho).idxS (by rw [show 0 + 5 = 5 from rfl]; exact y5') j hjl
      exact ⟨g', s', e⟩
     have hjc : j < m.Plan.Channels.length := by have := HNH.out; omega
     obtain ⟨cb, co, ch, rfl, hcb, hch, _, _, hc2, _, _, _, _, _, _⟩ := H1.out.atChannel j hjc
     have EA := TBh.out.ch.ext E8.out (by omega) (fun x hx => by have := (HF.out x hx).1; omega)
     have KA9 := TBh.out.bk KA8.out (by omega) hPA
     have a91 := KA9.cell (j := 1) rfl
     have ltA9 := KA9.lt
     have hc9 := (cell_ext EA hcb).trans hc2
     obtain ⟨T, hT, hTN⟩ : ∃ T : Nat, ch.To = T ∧ T < m.Cores.length := by
      have hv := HCV.out
      simp only [M.csv, Bool.and_eq_true, List.all_eq_true] at hv
      have hc := hv.2.2 ch (List.mem_of_getElem? hch.out)
      simp only [M.cv, Bool.and_eq_true, M.inn_iff] at hc
      exact ⟨ch.To.toNat, by omega, by omega⟩
     rw [hT] at hc9
     obtain ⟨fb, fo, fx, rfl, hfb, hx, hfc⟩ := Rs.atBool (⟨_, TBh.out.ch.sl HSL.out hBG hFG⟩ : Rs wr _ FL) T (by omega)
     have hfk : f ch.To.toNat = fx := by rw [hT, hfd, Int.toNat_natCast, List.getD_eq_getElem?_getD, hx.out]; rfl
     obtain ⟨_, _, ek, omh, hsubh, hbackh⟩ := TBh.out.hold k5 hjl
     obtain ⟨ha, hcc, hh0, _⟩ := omh.openHs
     have gf5 := omh.bk.2.2.2
     have hg5 := omh.bk.1
     obtain ⟨pc1, pc2, pc3⟩ := omh.putHold (y := ⟨[]⟩) (v := .slice none 0 0) (G := []) (Ext.refl _) (M := wr.heap.size) (by omega) (Nat.le_refl _) ⟨_, rfl, none, 0, rfl, Nat.le_refl _, Nat.zero_le _, .inl ⟨rfl, rfl⟩⟩ (Own.nil _ _)
     obtain ⟨F4, t10⟩ := hbackh _ _ _ pc1 pc2 (fun z hz => .inr (pc3 z hz))
     have T10 := Lib.hid t10
     clear KA9 EA hc2 hT omh hsubh hbackh ek pc1 pc2 pc3 t10
     cases fx
     ·have hnext := Lib.hid (show M.fgH f m.Plan.Channels m.Holds (j + 1) = (M.fgH f m.Plan.Channels m.Holds j).set j ⟨[]⟩ by show M.fgh1 f m.Plan.Channels _ j = _; unfold M.fgh1; rw [hch.out]; simp only [hfk]; rfl)
      go_wp2
      go_roundw
      case rel => exact ⟨j + 1, F4, by omega, by go_num, by rw [hnext.out]; exact T10.out⟩
      case measure => simp [intOf]; omega
     ·have hnext := Lib.hid (show M.fgH f m.Plan.Channels m.Holds (j + 1) = M.fgH f m.Plan.Channels m.Holds j by show M.fgh1 f m.Plan.Channels _ j = _; unfold M.fgh1; rw [hch.out]; simp only [hfk]; rfl)
      go_wp2
      go_roundw
      case rel => exact ⟨j + 1, Fk, by omega, by go_num, by rw [hnext.out]; exact TBh.out⟩
      case measure => simp [intOf]; omega
    ·obtain rfl : j = m.Holds.length := by omega
     have KBx := TBh.out.bk KB8.out (by omega) (fun hx => by have := (HF.out _ hx).1; omega)
     have EY := Lib.hid (TBh.out.ch.ext E8.out (by omega) (fun x hx => by have := (HF.out x hx).1; omega))
     have SB := Lib.hid TBh.out.sub
     have OM7 := Lib.hid TBh.out.om
     have z0 := KBx.cell (j := 0) rfl
     have z1 := KBx.cell (j := 1) rfl
     have z2 := KBx.cell (j := 2) rfl
     have z3 := KBx.cell (j := 3) rfl
     have z4 := KBx.cell (j := 4) rfl
     have z5 := KBx.cell (j := 5) rfl
     have z6 := KBx.cell (j := 6) rfl
     have zf := KBx.fz
     have ltZ := KBx.lt
     have hbf := TBh.out.om.bk.2.2.2
     have hb7 := TBh.out.lt
     clear KBx
     obtain ⟨x, hx⟩ : ∃ x, ({ X with Holds := M.fgH f m.Plan.Channels m.Holds m.Holds.length } : Machine) = x := ⟨_, rfl⟩
     rw [hx] at OM7
     obtain ⟨p0, q0, p1, q1, p2, q2, p3, q3, p4, q4, _, _, y0, y1, y2, y3, y4, -, y6, _⟩ := OM7.out.openM
     go_wp2
     obtain ⟨cs8, hen8, hat8, hown8⟩ := OM7.out
     obtain ⟨v0, v1, v2, v3, v4, v5, _, _, _, _, _, _, rfl, _⟩ := id hen8
     obtain rfl := Option.some.inj ((hat8 0 _ rfl).symm.trans y0)
     obtain rfl := Option.some.inj ((hat8 1 _ rfl).symm.trans y1)
     obtain rfl := Option.some.inj ((hat8 2 _ rfl).symm.trans y2)
     obtain rfl := Option.some.inj ((hat8 3 _ rfl).symm.trans y3)
     obtain rfl := Option.some.inj ((hat8 4 _ rfl).symm.trans y4)
     obtain rfl := Option.some.inj ((hat8 5 _ rfl).symm.trans y5')
     have hZ : w.heap.size + 1 ∉ Fk := fun hm => (SB.out _ hm).elim (fun h => by have := (HF.out _ h).1; omega) (fun h => by omega)
     have OW : Own w0.heap.size wr Fk := ⟨(List.nodup_cons.1 hown8.1).2, fun k hk => hown8.2 k (List.mem_cons_of_mem _ hk)⟩
     refine bodyPost_ret (v := .agg #[.slice p0 x.Plan.Parts.length q0, .slice p1 x.Plan.Channels.length q1, .slice p2 x.Plan.Slots.length q2, .slice p3 x.Programs.length q3, .slice p4 x.Cores.length q4, .slice t5 m.Holds.length u5, .int .i64 x.Tick]) (by simp [results, Tryz.results27, go_sem, z0, z1, z2, z3, z4, z5, z6]) rfl ⟨_, rfl, by rw [hres.out, hx]; exact ⟨_, _, rfl, enc_puts (c := w.heap.size + 1) (o := 0) (ds := [.slice p0 x.Plan.Parts.length q0, .slice p1 x.Plan.Channels.length q1, .slice p2 x.Plan.Slots.length q2, .slice p3 x.Programs.length q3, .slice p4 x.Cores.length q4, .slice t5 m.Holds.length u5, .int .i64 x.Tick]) hen8 hZ, ((OW.mono (by omega)).put (b := w.heap.size + 1) (o := 0) (cs := [.slice p0 x.Plan.Parts.length q0, .slice p1 x.Plan.Channels.length q1, .slice p2 x.Plan.Slots.length q2, .slice p3 x.Programs.length q3, .slice p4 x.Cores.length q4, .slice t5 m.Holds.length u5, .int .i64 x.Tick]))⟩, ?_⟩
     exact (((((((EY.out).set (by simp) _).set (by simp) _).set (by simp) _).set (by simp) _).set (by simp) _).set (by simp) _).set (by simp) _

end Sk
