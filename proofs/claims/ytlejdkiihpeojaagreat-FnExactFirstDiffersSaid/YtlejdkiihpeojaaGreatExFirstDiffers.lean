/- Contracts of functions of the given program, and lemmas for them: each theorem states the condition under which it holds. -/
import Derived.Test.YtlejdkiihpeojaaGreatChecked
import Derived.Deep.CutBlock
import Derived.Deep.CutRange
import Derived.Test.YtlejdkiihpeojaaGreatVZFdI
import Derived.Test.YtlejdkiihpeojaaGreatYFdS
import Derived.Test.YtlejdkiihpeojaaGreatSame
import Derived.Test.YtlejdkiihpeojaaGreatAcc
namespace Sk
open Go Go.Proofs Go.RowKit
set_option maxHeartbeats 4000000
set_option maxRecDepth 100000
set_option linter.unusedVariables false
set_option linter.unusedSimpArgs false
theorem lawExactFirstDiffers (v0 : Value) (m : Machine) (v1 : Value) (p : Machine) (n t : Int) (w : World) (hm : Rv w v0 m) (hp : Rv w v1 p) (rn : rng n) (rt : rng t) :
   Calls Tryz.prog 7 #[v0, v1, .int .i64 n, .int .i64 t] w fun e w' => e = .returned (.bool true) ∧ Ext w w' := by
  have H := Lib.hid hm
  have HP := Lib.hid hp
  have RT := Lib.hid rt
  obtain ⟨a0, c0, a1, c1, a2, c2, a3, c3, a4, c4, a5, c5, rfl, _⟩ := hm.openMachine
  obtain ⟨f0, h0, f1, h1, f2, h2, f3, h3, f4, h4, f5, h5, rfl, _⟩ := hp.openMachine
  clear hm hp
  go_enter Tryz.func7, Tryz.ntmps7
  go_upto_region 2 with (fail)
  refine abs_world (fun W => Ext w W ∧ Bk W w.heap.size [.slice a0 m.Plan.Parts.length c0, .slice a1 m.Plan.Channels.length c1, .slice a2 m.Plan.Slots.length c2, .slice a3 m.Programs.length c3, .slice a4 m.Cores.length c4, .slice a5 m.Holds.length c5, .int .i64 m.Tick] 31 ∧ Bk W (w.heap.size + 1) [.slice f0 p.Plan.Parts.length h0, .slice f1 p.Plan.Channels.length h1, .slice f2 p.Plan.Slots.length h2, .slice f3 p.Programs.length h3, .slice f4 p.Cores.length h4, .slice f5 p.Holds.length h5, .int .i64 p.Tick] 31) ⟨((Ext.refl _).alloc _).alloc _, (Bk.new _ _ _).ext ((Ext.refl _).alloc _), Bk.new1 _ _ _ _⟩ ?_
  rintro W0 ⟨E, KA, KB⟩
  replace E := Lib.hid E; replace KA := Lib.hid KA; replace KB := Lib.hid KB
  have x0 := KA.out.cell (j := 0) rfl
  have x1 := KA.out.cell (j := 1) rfl
  have x2 := KA.out.cell (j := 2) rfl
  have x3 := KA.out.cell (j := 3) rfl
  have x4 := KA.out.cell (j := 4) rfl
  have x5 := KA.out.cell (j := 5) rfl
  have x6 := KA.out.cell (j := 6) rfl
  replace H := Lib.hid (H.out.ext E.out); replace HP := Lib.hid (HP.out.ext E.out)
  go_upto_region 5 with (go_at_call 9; refine (szMachine _ _ _ _ H.out (by omega) (by omega)).mono ?_; rintro e u1 ⟨⟨s0, rfl, hs0a, hs0b, hs0c⟩, he⟩; have HR0 := Lib.hid hs0c; have X := Lib.hid he; clear hs0c he)
  · go_ret
    exact ⟨rfl, E.out.tr X.out⟩
  have S0 : Hid (GT.tot m ≤ 1048576) := Lib.hid (by have := HR0.out (by omega); omega)
  clear HR0 x0 x1 x2 x3 x4 x5 x6
  replace E := Lib.hid (E.out.tr X.out); replace KA := Lib.hid (KA.out.ext X.out); replace KB := Lib.hid (KB.out.ext X.out); replace H := Lib.hid (H.out.ext X.out); replace HP := Lib.hid (HP.out.ext X.out); clear X
  have y0 := KB.out.cell (j := 0) rfl
  have y1 := KB.out.cell (j := 1) rfl
  have y2 := KB.out.cell (j := 2) rfl
  have y3 := KB.out.cell (j := 3) rfl
  have y4 := KB.out.cell (j := 4) rfl
  have y5 := KB.out.cell (j := 5) rfl
  have y6 := KB.out.cell (j := 6) rfl
  go_upto_region 8 with (go_at_call 9; refine (szMachine _ _ _ _ HP.out (by omega) (by omega)).mono ?_; rintro e u2 ⟨⟨s1, rfl, hs1a, hs1b, hs1c⟩, he⟩; have HR1 := Lib.hid hs1c; have X := Lib.hid he; clear hs1c he)
  · go_ret
    exact ⟨rfl, E.out.tr X.out⟩
  have S1 : Hid (GT.tot p ≤ 1048576) := Lib.hid (by have := HR1.out (by omega); omega)
  clear HR1 y0 y1 y2 y3 y4 y5 y6
  replace E := Lib.hid (E.out.tr X.out); replace KA := Lib.hid (KA.out.ext X.out); replace KB := Lib.hid (KB.out.ext X.out); replace H := Lib.hid (H.out.ext X.out); replace HP := Lib.hid (HP.out.ext X.out); clear X
  have x0 := KA.out.cell (j := 0) rfl
  have x1 := KA.out.cell (j := 1) rfl
  have x2 := KA.out.cell (j := 2) rfl
  have x3 := KA.out.cell (j := 3) rfl
  have x4 := KA.out.cell (j := 4) rfl
  have x5 := KA.out.cell (j := 5) rfl
  have x6 := KA.out.cell (j := 6) rfl
  have y0 := KB.out.cell (j := 0) rfl
  have y1 := KB.out.cell (j := 1) rfl
  have y2 := KB.out.cell (j := 2) rfl
  have y3 := KB.out.cell (j := 3) rfl
  have y4 := KB.out.cell (j := 4) rfl
  have y5 := KB.out.cell (j := 5) rfl
  have y6 := KB.out.cell (j := 6) rfl
  have ltA := KA.out.lt
  have ltB := KB.out.lt
  go_region_held3 (fun u => u.cell? ⟨w.heap.size, 0, none⟩ = some (.slice a0 m.Plan.Parts.length c0) ∧ u.cell? ⟨w.heap.size, 1, none⟩ = some (.slice a1 m.Plan.Channels.length c1) ∧ u.cell? ⟨w.heap.size, 2, none⟩ = some (.slice a2 m.Plan.Slots.length c2) ∧ u.cell? ⟨w.heap.size, 3, none⟩ = some (.slice a3 m.Programs.length c3) ∧ u.cell? ⟨w.heap.size, 4, none⟩ = some (.slice a4 m.Cores.length c4) ∧ u.cell? ⟨w.heap.size, 5, none⟩ = some (.slice a5 m.Holds.length c5) ∧ u.cell? ⟨w.heap.size, 6, none⟩ = some (.int .i64 m.Tick) ∧ u.cell? ⟨(w.heap.size + 1), 0, none⟩ = some (.slice f0 p.Plan.Parts.length h0) ∧ u.cell? ⟨(w.heap.size + 1), 1, none⟩ = some (.slice f1 p.Plan.Channels.length h1) ∧ u.cell? ⟨(w.heap.size + 1), 2, none⟩ = some (.slice f2 p.Plan.Slots.length h2) ∧ u.cell? ⟨(w.heap.size + 1), 3, none⟩ = some (.slice f3 p.Programs.length h3) ∧ u.cell? ⟨(w.heap.size + 1), 4, none⟩ = some (.slice f4 p.Cores.length h4) ∧ u.cell? ⟨(w.heap.size + 1), 5, none⟩ = some (.slice f5 p.Holds.length h5) ∧ u.cell? ⟨(w.heap.size + 1), 6, none⟩ = some (.int .i64 p.Tick))
    (first
      | exact ⟨(cell_ext XX.out ltA).trans x0, (cell_ext XX.out ltA).trans x1, (cell_ext XX.out ltA).trans x2, (cell_ext XX.out ltA).trans x3, (cell_ext XX.out ltA).trans x4, (cell_ext XX.out ltA).trans x5, (cell_ext XX.out ltA).trans x6, (cell_ext XX.out ltB).trans y0, (cell_ext XX.out ltB).trans y1, (cell_ext XX.out ltB).trans y2, (cell_ext XX.out ltB).trans y3, (cell_ext XX.out ltB).trans y4, (cell_ext XX.out ltB).trans y5, (cell_ext XX.out ltB).trans y6⟩
      | go_keep)
    (first
      | (go_at_call 25; have _t := HCj; refine (spec_FirstDiffers _ _ m p n t _ HC4.out HCj.out RT.out).mono ?_; rintro e u6 ⟨rfl, he⟩; replace XX := Lib.hid (XX.out.tr he); clear he)
      | (go_at_call 11; have _t := HC3; refine (toMachine _ p _ (HP.out.ext XX.out) S1.out).mono ?_; rintro e uj ⟨v1, rfl, ho, he⟩; have HCj := Lib.hid ho.rv; obtain ⟨j0, k0, j1, k1, j2, k2, j3, k3, j4, k4, j5, k5, rfl, _⟩ := ho.rv.openMachine; replace XX := Lib.hid (XX.out.tr he); have HC4 := Lib.hid (HC3.out.ext he); clear ho he)
      | (go_at_call 11; refine (toMachine _ m _ (H.out.ext (Ext.refl _).drew) S0.out).mono ?_; rintro e u3 ⟨v1, rfl, ho, he⟩; have HC3 := Lib.hid ho.rv; obtain ⟨g0, i0, g1, i1, g2, i2, g3, i3, g4, i4, g5, i5, rfl, _⟩ := ho.rv.openMachine; have XX := Lib.hid ((Ext.refl _).drew.tr he); clear ho he))
  replace E := Lib.hid (E.out.tr XX.out); replace KA := Lib.hid (KA.out.ext XX.out); replace KB := Lib.hid (KB.out.ext XX.out); replace H := Lib.hid (H.out.ext XX.out); replace HP := Lib.hid (HP.out.ext XX.out); clear XX HC3 HC4 HCj x0 x1 x2 x3 x4 x5 x6 y0 y1 y2 y3 y4 y5 y6
  have x0 := KA.out.cell (j := 0) rfl
  have x1 := KA.out.cell (j := 1) rfl
  have x2 := KA.out.cell (j := 2) rfl
  have x3 := KA.out.cell (j := 3) rfl
  have x4 := KA.out.cell (j := 4) rfl
  have x5 := KA.out.cell (j := 5) rfl
  have x6 := KA.out.cell (j := 6) rfl
  go_upto_region 10 with (go_at_call 11; refine (toMachine _ m _ H.out S0.out).mono ?_; rintro e u7 ⟨v1, rfl, ho, he⟩; have HX := Lib.hid ho.rv; have X := Lib.hid he; obtain ⟨r0, s0, r1, s1, r2, s2, r3, s3, r4, s4, r5, s5, rfl, _⟩ := ho.rv.openMachine; clear ho he)
  refine abs_world (fun W => Ext u7 W ∧ Bk W u7.heap.size [.slice r0 m.Plan.Parts.length s0, .slice r1 m.Plan.Channels.length s1, .slice r2 m.Plan.Slots.length s2, .slice r3 m.Programs.length s3, .slice r4 m.Cores.length s4, .slice r5 m.Holds.length s5, .int .i64 m.Tick] 42) ⟨(Ext.refl _).alloc _, Bk.new _ _ _⟩ ?_
  rintro u8 ⟨y8, k8⟩
  replace X := Lib.hid (X.out.tr y8); replace HX := Lib.hid (HX.out.ext y8); have KX := Lib.hid k8; clear y8 k8 x0 x1 x2 x3 x4 x5 x6
  replace E := Lib.hid (E.out.tr X.out); replace KA := Lib.hid (KA.out.ext X.out); replace KB := Lib.hid (KB.out.ext X.out); replace H := Lib.hid (H.out.ext X.out); replace HP := Lib.hid (HP.out.ext X.out); clear X
  have y0 := KB.out.cell (j := 0) rfl
  have y1 := KB.out.cell (j := 1) rfl
  have y2 := KB.out.cell (j := 2) rfl
  have y3 := KB.out.cell (j := 3) rfl
  have y4 := KB.out.cell (j := 4) rfl
  have y5 := KB.out.cell (j := 5) rfl
  have y6 := KB.out.cell (j := 6) rfl
  go_upto_region 11 with (go_at_call 11; refine (toMachine _ p _ HP.out S1.out).mono ?_; rintro e u9 ⟨v1, rfl, ho, he⟩; have HY := Lib.hid ho.rv; have X := Lib.hid he; obtain ⟨t0, q0, t1, q1, t2, q2, t3, q3, t4, q4, t5, q5, rfl, _⟩ := ho.rv.openMachine; clear ho he)
  refine abs_world (fun W => Ext u9 W ∧ Bk W u9.heap.size [.slice t0 p.Plan.Parts.length q0, .slice t1 p.Plan.Channels.length q1, .slice t2 p.Plan.Slots.length q2, .slice t3 p.Programs.length q3, .slice t4 p.Cores.length q4, .slice t5 p.Holds.length q5, .int .i64 p.Tick] 42) ⟨(Ext.refl _).alloc _, Bk.new _ _ _⟩ ?_
  rintro ua ⟨ya, ka⟩
  replace X := Lib.hid (X.out.tr ya); replace HY := Lib.hid (HY.out.ext ya); have KY := Lib.hid ka; clear ya ka y0 y1 y2 y3 y4 y5 y6
  replace E := Lib.hid (E.out.tr X.out); replace KA := Lib.hid (KA.out.ext X.out); replace KB := Lib.hid (KB.out.ext X.out); replace KX := Lib.hid (KX.out.ext X.out); replace H := Lib.hid (H.out.ext X.out); replace HP := Lib.hid (HP.out.ext X.out); replace HX := Lib.hid (HX.out.ext X.out); clear X
  have x0 := KX.out.cell (j := 0) rfl
  have x1 := KX.out.cell (j := 1) rfl
  have x2 := KX.out.cell (j := 2) rfl
  have x3 := KX.out.cell (j := 3) rfl
  have x4 := KX.out.cell (j := 4) rfl
  have x5 := KX.out.cell (j := 5) rfl
  have x6 := KX.out.cell (j := 6) rfl
  have y0 := KY.out.cell (j := 0) rfl
  have y1 := KY.out.cell (j := 1) rfl
  have y2 := KY.out.cell (j := 2) rfl
  have y3 := KY.out.cell (j := 3) rfl
  have y4 := KY.out.cell (j := 4) rfl
  have y5 := KY.out.cell (j := 5) rfl
  have y6 := KY.out.cell (j := 6) rfl
  go_upto_region 12 with (go_at_call 26; refine (impl_FirstDiffers _ _ m p n t _ HX.out HY.out).mono ?_; rintro e ub ⟨rfl, he⟩; have X := Lib.hid he; clear he)
  replace E := Lib.hid (E.out.tr X.out); replace KA := Lib.hid (KA.out.ext X.out); replace KB := Lib.hid (KB.out.ext X.out); replace KX := Lib.hid (KX.out.ext X.out); replace KY := Lib.hid (KY.out.ext X.out); replace H := Lib.hid (H.out.ext X.out); replace HP := Lib.hid (HP.out.ext X.out); replace HX := Lib.hid (HX.out.ext X.out); replace HY := Lib.hid (HY.out.ext X.out); clear X x0 x1 x2 x3 x4 x5 x6 y0 y1 y2 y3 y4 y5 y6
  obtain ⟨r, hr⟩ : ∃ r, M.firstDiffers m p n t = r := ⟨_, rfl⟩
  rw [hr]
  have hrr : (r != r) = false := by simp
  have x0 := KX.out.cell (j := 0) rfl
  have x1 := KX.out.cell (j := 1) rfl
  have x2 := KX.out.cell (j := 2) rfl
  have x3 := KX.out.cell (j := 3) rfl
  have x4 := KX.out.cell (j := 4) rfl
  have x5 := KX.out.cell (j := 5) rfl
  have x6 := KX.out.cell (j := 6) rfl
  have y0 := KA.out.cell (j := 0) rfl
  have y1 := KA.out.cell (j := 1) rfl
  have y2 := KA.out.cell (j := 2) rfl
  have y3 := KA.out.cell (j := 3) rfl
  have y4 := KA.out.cell (j := 4) rfl
  have y5 := KA.out.cell (j := 5) rfl
  have y6 := KA.out.cell (j := 6) rfl
  have ltA := KA.out.lt
  have ltX := KX.out.lt
  go_upto_region 14 with (fail)
  go_region_held3 (fun u => u.cell? ⟨u7.heap.size, 0, none⟩ = some (.slice r0 m.Plan.Parts.length s0) ∧ u.cell? ⟨u7.heap.size, 1, none⟩ = some (.slice r1 m.Plan.Channels.length s1) ∧ u.cell? ⟨u7.heap.size, 2, none⟩ = some (.slice r2 m.Plan.Slots.length s2) ∧ u.cell? ⟨u7.heap.size, 3, none⟩ = some (.slice r3 m.Programs.length s3) ∧ u.cell? ⟨u7.heap.size, 4, none⟩ = some (.slice r4 m.Cores.length s4) ∧ u.cell? ⟨u7.heap.size, 5, none⟩ = some (.slice r5 m.Holds.length s5) ∧ u.cell? ⟨u7.heap.size, 6, none⟩ = some (.int .i64 m.Tick) ∧ u.cell? ⟨w.heap.size, 0, none⟩ = some (.slice a0 m.Plan.Parts.length c0) ∧ u.cell? ⟨w.heap.size, 1, none⟩ = some (.slice a1 m.Plan.Channels.length c1) ∧ u.cell? ⟨w.heap.size, 2, none⟩ = some (.slice a2 m.Plan.Slots.length c2) ∧ u.cell? ⟨w.heap.size, 3, none⟩ = some (.slice a3 m.Programs.length c3) ∧ u.cell? ⟨w.heap.size, 4, none⟩ = some (.slice a4 m.Cores.length c4) ∧ u.cell? ⟨w.heap.size, 5, none⟩ = some (.slice a5 m.Holds.length c5) ∧ u.cell? ⟨w.heap.size, 6, none⟩ = some (.int .i64 m.Tick))
    (first
      | exact ⟨(cell_ext X14.out ltX).trans x0, (cell_ext X14.out ltX).trans x1, (cell_ext X14.out ltX).trans x2, (cell_ext X14.out ltX).trans x3, (cell_ext X14.out ltX).trans x4, (cell_ext X14.out ltX).trans x5, (cell_ext X14.out ltX).trans x6, (cell_ext X14.out ltA).trans y0, (cell_ext X14.out ltA).trans y1, (cell_ext X14.out ltA).trans y2, (cell_ext X14.out ltA).trans y3, (cell_ext X14.out ltA).trans y4, (cell_ext X14.out ltA).trans y5, (cell_ext X14.out ltA).trans y6⟩
      | go_keep)
    (first
      | (go_at_call 13; have _t := HZ14; refine (eqMachine _ _ m m _ (HX.out.ext X14.out) HZ14.out).mono ?_; rintro e u814 ⟨rfl, he⟩; rw [Eqb.t (rfl : m = m)]; replace X14 := Lib.hid (X14.out.tr he); clear he)
      | (go_at_call 11; refine (toMachine _ m _ (H.out.ext (Ext.refl _).drew) S0.out).mono ?_; rintro e u714 ⟨v1, rfl, ho, he⟩; have HZ14 := Lib.hid ho.rv; have X14 := Lib.hid ((Ext.refl _).drew.tr he); clear ho he))
  replace E := Lib.hid (E.out.tr X14.out); replace KB := Lib.hid (KB.out.ext X14.out); replace KY := Lib.hid (KY.out.ext X14.out); replace HP := Lib.hid (HP.out.ext X14.out); replace HY := Lib.hid (HY.out.ext X14.out); clear X14 HZ14 x0 x1 x2 x3 x4 x5 x6 y0 y1 y2 y3 y4 y5 y6 ltA ltX
  have x0 := KY.out.cell (j := 0) rfl
  have x1 := KY.out.cell (j := 1) rfl
  have x2 := KY.out.cell (j := 2) rfl
  have x3 := KY.out.cell (j := 3) rfl
  have x4 := KY.out.cell (j := 4) rfl
  have x5 := KY.out.cell (j := 5) rfl
  have x6 := KY.out.cell (j := 6) rfl
  have y0 := KB.out.cell (j := 0) rfl
  have y1 := KB.out.cell (j := 1) rfl
  have y2 := KB.out.cell (j := 2) rfl
  have y3 := KB.out.cell (j := 3) rfl
  have y4 := KB.out.cell (j := 4) rfl
  have y5 := KB.out.cell (j := 5) rfl
  have y6 := KB.out.cell (j := 6) rfl
  have ltB := KB.out.lt
  have ltY := KY.out.lt
  go_upto_region 16 with (fail)
  go_region_held3 (fun u => u.cell? ⟨u9.heap.size, 0, none⟩ = some (.slice t0 p.Plan.Parts.length q0) ∧ u.cell? ⟨u9.heap.size, 1, none⟩ = some (.slice t1 p.Plan.Channels.length q1) ∧ u.cell? ⟨u9.heap.size, 2, none⟩ = some (.slice t2 p.Plan.Slots.length q2) ∧ u.cell? ⟨u9.heap.size, 3, none⟩ = some (.slice t3 p.Programs.length q3) ∧ u.cell? ⟨u9.heap.size, 4, none⟩ = some (.slice t4 p.Cores.length q4) ∧ u.cell? ⟨u9.heap.size, 5, none⟩ = some (.slice t5 p.Holds.length q5) ∧ u.cell? ⟨u9.heap.size, 6, none⟩ = some (.int .i64 p.Tick) ∧ u.cell? ⟨(w.heap.size + 1), 0, none⟩ = some (.slice f0 p.Plan.Parts.length h0) ∧ u.cell? ⟨(w.heap.size + 1), 1, none⟩ = some (.slice f1 p.Plan.Channels.length h1) ∧ u.cell? ⟨(w.heap.size + 1), 2, none⟩ = some (.slice f2 p.Plan.Slots.length h2) ∧ u.cell? ⟨(w.heap.size + 1), 3, none⟩ = some (.slice f3 p.Programs.length h3) ∧ u.cell? ⟨(w.heap.size + 1), 4, none⟩ = some (.slice f4 p.Cores.length h4) ∧ u.cell? ⟨(w.heap.size + 1), 5, none⟩ = some (.slice f5 p.Holds.length h5) ∧ u.cell? ⟨(w.heap.size + 1), 6, none⟩ = some (.int .i64 p.Tick))
    (first
      | exact ⟨(cell_ext X16.out ltY).trans x0, (cell_ext X16.out ltY).trans x1, (cell_ext X16.out ltY).trans x2, (cell_ext X16.out ltY).trans x3, (cell_ext X16.out ltY).trans x4, (cell_ext X16.out ltY).trans x5, (cell_ext X16.out ltY).trans x6, (cell_ext X16.out ltB).trans y0, (cell_ext X16.out ltB).trans y1, (cell_ext X16.out ltB).trans y2, (cell_ext X16.out ltB).trans y3, (cell_ext X16.out ltB).trans y4, (cell_ext X16.out ltB).trans y5, (cell_ext X16.out ltB).trans y6⟩
      | go_keep)
    (first
      | (go_at_call 13; have _t := HZ16; refine (eqMachine _ _ p p _ (HY.out.ext X16.out) HZ16.out).mono ?_; rintro e u816 ⟨rfl, he⟩; rw [Eqb.t (rfl : p = p)]; replace X16 := Lib.hid (X16.out.tr he); clear he)
      | (go_at_call 11; refine (toMachine _ p _ (HP.out.ext (Ext.refl _).drew) S1.out).mono ?_; rintro e u716 ⟨v1, rfl, ho, he⟩; have HZ16 := Lib.hid ho.rv; have X16 := Lib.hid ((Ext.refl _).drew.tr he); clear ho he))
  go_wp2
  go_ret
  exact ⟨rfl, E.out.tr X16.out⟩
end Sk
