/- Contracts of functions of the given program, and lemmas for them: each theorem states the condition under which it holds. -/
import Derived.Test.YtlejdkiihpeojaaGreatChecked
import Derived.Deep.CutBlock
import Derived.Deep.CutRange
import Derived.Test.YtlejdkiihpeojaaGreatVWSeen
import Derived.Test.YtlejdkiihpeojaaGreatXSentS
import Derived.Test.YtlejdkiihpeojaaGreatTot
import Derived.Test.YtlejdkiihpeojaaGreatAcc
namespace Sk
open Go Go.Proofs Go.RowKit
set_option maxHeartbeats 4000000
set_option maxRecDepth 100000
set_option linter.unusedVariables false
set_option linter.unusedSimpArgs false
theorem lawExactSentCount (v0 : Value) (m : Machine) (n c t : Int) (w : World) (h0 : Rv w v0 m) (rn : rng n) (rc : rng c) (rt : rng t) :
   Calls Tryz.prog 5 #[v0, .int .i64 n, .int .i64 c, .int .i64 t] w fun e w' => e = .returned (.bool true) ∧ Ext w w' := by
  have H := Lib.hid h0
  have RT := Lib.hid rt
  obtain ⟨a0, c0, a1, c1, a2, c2, a3, c3, a4, c4, a5, c5, rfl, _⟩ := h0.openMachine
  clear h0
  go_enter Tryz.func5, Tryz.ntmps5
  go_upto_region 2 with (fail)
  refine abs_world (fun W => Ext w W ∧ Bk W w.heap.size [.slice a0 m.Plan.Parts.length c0, .slice a1 m.Plan.Channels.length c1, .slice a2 m.Plan.Slots.length c2, .slice a3 m.Programs.length c3, .slice a4 m.Cores.length c4, .slice a5 m.Holds.length c5, .int .i64 m.Tick] 31) ⟨(Ext.refl _).alloc _, Bk.new _ _ _⟩ ?_
  rintro W0 ⟨E, KA⟩
  replace E := Lib.hid E; replace KA := Lib.hid KA
  have f0 := KA.out.cell (j := 0) rfl
  have f1 := KA.out.cell (j := 1) rfl
  have f2 := KA.out.cell (j := 2) rfl
  have f3 := KA.out.cell (j := 3) rfl
  have f4 := KA.out.cell (j := 4) rfl
  have f5 := KA.out.cell (j := 5) rfl
  have f6 := KA.out.cell (j := 6) rfl
  replace H := Lib.hid (H.out.ext E.out)
  go_upto_region 5 with (go_at_call 9; refine (szMachine _ _ _ _ H.out (by omega) (by omega)).mono ?_; rintro e u1 ⟨⟨s0, rfl, hs0a, hs0b, hs0c⟩, he⟩; have HR0 := Lib.hid hs0c; have X := Lib.hid he; clear hs0c he)
  · go_ret
    exact ⟨rfl, E.out.tr X.out⟩
  have S0 : Hid (GT.tot m ≤ 1048576) := Lib.hid (by have := HR0.out (by omega); omega)
  clear HR0 f0 f1 f2 f3 f4 f5 f6
  replace E := Lib.hid (E.out.tr X.out); replace KA := Lib.hid (KA.out.ext X.out); replace H := Lib.hid (H.out.ext X.out); clear X
  have f0 := KA.out.cell (j := 0) rfl
  have f1 := KA.out.cell (j := 1) rfl
  have f2 := KA.out.cell (j := 2) rfl
  have f3 := KA.out.cell (j := 3) rfl
  have f4 := KA.out.cell (j := 4) rfl
  have f5 := KA.out.cell (j := 5) rfl
  have f6 := KA.out.cell (j := 6) rfl
  go_upto_region 6 with (first
    | (go_at_call 11; refine (toMachine _ m _ H.out S0.out).mono ?_; rintro e u2 ⟨v1, rfl, ho, he⟩; have HC := Lib.hid ho.rv; have X1 := Lib.hid he; obtain ⟨pa0, pc0, pa1, pc1, pa2, pc2, pa3, pc3, pa4, pc4, pa5, pc5, rfl, _⟩ := ho.rv.openMachine; clear ho he)
    | (go_at_call 18; refine (spec_SentCount _ m n c t _ HC.out RT.out).mono ?_; rintro e u3 ⟨rfl, he⟩; have X2 := Lib.hid (X1.out.tr he); clear he))
  replace E := Lib.hid (E.out.tr X2.out); replace KA := Lib.hid (KA.out.ext X2.out); replace H := Lib.hid (H.out.ext X2.out); clear X1 X2 HC f0 f1 f2 f3 f4 f5 f6
  have f0 := KA.out.cell (j := 0) rfl
  have f1 := KA.out.cell (j := 1) rfl
  have f2 := KA.out.cell (j := 2) rfl
  have f3 := KA.out.cell (j := 3) rfl
  have f4 := KA.out.cell (j := 4) rfl
  have f5 := KA.out.cell (j := 5) rfl
  have f6 := KA.out.cell (j := 6) rfl
  go_upto_region 7 with (go_at_call 11; refine (toMachine _ m _ H.out S0.out).mono ?_; rintro e u4 ⟨v1, rfl, ho, he⟩; have HC := Lib.hid ho.rv; have X1 := Lib.hid he; obtain ⟨ga0, gc0, ga1, gc1, ga2, gc2, ga3, gc3, ga4, gc4, ga5, gc5, rfl, _⟩ := ho.rv.openMachine; clear ho he)
  refine abs_world (fun W => Ext u4 W ∧ Bk W u4.heap.size [.slice ga0 m.Plan.Parts.length gc0, .slice ga1 m.Plan.Channels.length gc1, .slice ga2 m.Plan.Slots.length gc2, .slice ga3 m.Programs.length gc3, .slice ga4 m.Cores.length gc4, .slice ga5 m.Holds.length gc5, .int .i64 m.Tick] 42) ⟨(Ext.refl _).alloc _, Bk.new _ _ _⟩ ?_
  rintro u5 ⟨e5, kB⟩
  have X5 := Lib.hid e5
  have KB := Lib.hid kB
  replace E := Lib.hid (E.out.tr (X1.out.tr X5.out)); replace KA := Lib.hid (KA.out.ext (X1.out.tr X5.out)); replace H := Lib.hid (H.out.ext (X1.out.tr X5.out)); replace HC := Lib.hid (HC.out.ext X5.out); clear e5 kB X1 X5 f0 f1 f2 f3 f4 f5 f6
  have b0 := KB.out.cell (j := 0) rfl
  have b1 := KB.out.cell (j := 1) rfl
  have b2 := KB.out.cell (j := 2) rfl
  have b3 := KB.out.cell (j := 3) rfl
  have b4 := KB.out.cell (j := 4) rfl
  have b5 := KB.out.cell (j := 5) rfl
  have b6 := KB.out.cell (j := 6) rfl
  go_upto_region 8 with (go_at_call 19; refine (impl_SentCount _ m n c t _ HC.out).mono ?_; rintro e u6 ⟨rfl, he⟩; have X6 := Lib.hid he; clear he)
  replace E := Lib.hid (E.out.tr X6.out); replace KA := Lib.hid (KA.out.ext X6.out); replace KB := Lib.hid (KB.out.ext X6.out); replace H := Lib.hid (H.out.ext X6.out); replace HC := Lib.hid (HC.out.ext X6.out); clear X6 b0 b1 b2 b3 b4 b5 b6
  have b0 := KB.out.cell (j := 0) rfl
  have b1 := KB.out.cell (j := 1) rfl
  have b2 := KB.out.cell (j := 2) rfl
  have b3 := KB.out.cell (j := 3) rfl
  have b4 := KB.out.cell (j := 4) rfl
  have b5 := KB.out.cell (j := 5) rfl
  have b6 := KB.out.cell (j := 6) rfl
  have f0 := KA.out.cell (j := 0) rfl
  have f1 := KA.out.cell (j := 1) rfl
  have f2 := KA.out.cell (j := 2) rfl
  have f3 := KA.out.cell (j := 3) rfl
  have f4 := KA.out.cell (j := 4) rfl
  have f5 := KA.out.cell (j := 5) rfl
  have f6 := KA.out.cell (j := 6) rfl
  have ltA := KA.out.lt
  have ltB := KB.out.lt
  obtain ⟨r, hr⟩ : ∃ r, M.sentCount m n c t = r := ⟨_, rfl⟩
  rw [hr]
  have hrr : (r != r) = false := by simp
  go_upto_region 10 with (fail)
  go_region_held3 (fun u => u.cell? ⟨w.heap.size, 0, none⟩ = some (.slice a0 m.Plan.Parts.length c0) ∧ u.cell? ⟨w.heap.size, 1, none⟩ = some (.slice a1 m.Plan.Channels.length c1) ∧ u.cell? ⟨w.heap.size, 2, none⟩ = some (.slice a2 m.Plan.Slots.length c2) ∧ u.cell? ⟨w.heap.size, 3, none⟩ = some (.slice a3 m.Programs.length c3) ∧ u.cell? ⟨w.heap.size, 4, none⟩ = some (.slice a4 m.Cores.length c4) ∧ u.cell? ⟨w.heap.size, 5, none⟩ = some (.slice a5 m.Holds.length c5) ∧ u.cell? ⟨w.heap.size, 6, none⟩ = some (.int .i64 m.Tick) ∧ u.cell? ⟨u4.heap.size, 0, none⟩ = some (.slice ga0 m.Plan.Parts.length gc0) ∧ u.cell? ⟨u4.heap.size, 1, none⟩ = some (.slice ga1 m.Plan.Channels.length gc1) ∧ u.cell? ⟨u4.heap.size, 2, none⟩ = some (.slice ga2 m.Plan.Slots.length gc2) ∧ u.cell? ⟨u4.heap.size, 3, none⟩ = some (.slice ga3 m.Programs.length gc3) ∧ u.cell? ⟨u4.heap.size, 4, none⟩ = some (.slice ga4 m.Cores.length gc4) ∧ u.cell? ⟨u4.heap.size, 5, none⟩ = some (.slice ga5 m.Holds.length gc5) ∧ u.cell? ⟨u4.heap.size, 6, none⟩ = some (.int .i64 m.Tick))
    (first
      | exact ⟨(cell_ext X7.out ltA).trans f0, (cell_ext X7.out ltA).trans f1, (cell_ext X7.out ltA).trans f2, (cell_ext X7.out ltA).trans f3, (cell_ext X7.out ltA).trans f4, (cell_ext X7.out ltA).trans f5, (cell_ext X7.out ltA).trans f6, (cell_ext X7.out ltB).trans b0, (cell_ext X7.out ltB).trans b1, (cell_ext X7.out ltB).trans b2, (cell_ext X7.out ltB).trans b3, (cell_ext X7.out ltB).trans b4, (cell_ext X7.out ltB).trans b5, (cell_ext X7.out ltB).trans b6⟩
      | go_keep)
    (first
      | (go_at_call 13; refine (eqMachine _ _ m m _ (HC.out.ext X7.out) HD.out).mono ?_; rintro e u8 ⟨rfl, he⟩; rw [Eqb.t (rfl : m = m)]; replace X7 := Lib.hid (X7.out.tr he); clear he)
      | (go_at_call 11; refine (toMachine _ m _ (H.out.ext (Ext.refl _).drew) S0.out).mono ?_; rintro e u7 ⟨v1, rfl, ho, he⟩; have HD := Lib.hid ho.rv; have X7 := Lib.hid ((Ext.refl _).drew.tr he); clear ho he))
  go_wp2
  go_ret
  exact ⟨rfl, E.out.tr X7.out⟩
end Sk
