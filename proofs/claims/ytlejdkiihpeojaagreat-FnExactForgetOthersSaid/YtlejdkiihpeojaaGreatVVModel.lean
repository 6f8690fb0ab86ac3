/- Contracts of functions of the given program, and lemmas for them: each theorem states the condition under which it holds. -/
import Derived.Test.YtlejdkiihpeojaaGreatChecked
import Derived.Deep.CutBlock
import Derived.Deep.CutRange
import Derived.Test.YtlejdkiihpeojaaGreatTickB
import Derived.Test.YtlejdkiihpeojaaGreatBuild
import Derived.Test.YtlejdkiihpeojaaGreatFrame
import Derived.Test.YtlejdkiihpeojaaGreatValid
import Derived.Test.YtlejdkiihpeojaaGreatRds
import Derived.Test.YtlejdkiihpeojaaGreatApp
import Derived.Test.YtlejdkiihpeojaaGreatScal
import Derived.Test.YtlejdkiihpeojaaGreatRefc
import Derived.Test.YtlejdkiihpeojaaGreatChan
import Derived.Test.YtlejdkiihpeojaaGreatNums
import Derived.Test.YtlejdkiihpeojaaGreatFind
import Derived.Test.YtlejdkiihpeojaaGreatTot
import Derived.Test.YtlejdkiihpeojaaGreatAcc
import Derived.Test.YtlejdkiihpeojaaGreatCopyM
import Derived.Test.YtlejdkiihpeojaaGreatNewT
import Derived.Test.YtlejdkiihpeojaaGreatCopy
import Derived.Test.YtlejdkiihpeojaaGreatTypes
import Derived.Test.YtlejdkiihpeojaaGreatCv
import Derived.Test.YtlejdkiihpeojaaGreatNewC
import Derived.Test.YtlejdkiihpeojaaGreatRstT
import Derived.Test.YtlejdkiihpeojaaGreatFlat
import Derived.Test.YtlejdkiihpeojaaGreatL18M
namespace Sk
open Go Go.Proofs Go.RowKit
set_option maxHeartbeats 1000000
set_option linter.unusedVariables false
set_option linter.unusedSimpArgs false
noncomputable def M.seen (m : Machine) (n : Int) : Bool := M.mv m && M.inn n 0 ((m.Cores.length : Int) - 1)
theorem M.seen_iff {m : Machine} {n : Int} : M.seen m n = true ↔ M.MV m ∧ 0 ≤ n ∧ n < m.Cores.length := by
 unfold M.seen
 rw [Bool.and_eq_true, M.mv_iff, M.inn_iff]
 constructor
 ·rintro ⟨h, h1, h2⟩; exact ⟨h, h1, by omega⟩
 ·rintro ⟨h, h1, h2⟩; exact ⟨h, h1, by omega⟩
end Sk
namespace Sk
open Go Go.Proofs Go.RowKit
set_option maxHeartbeats 4000000
set_option maxRecDepth 100000
set_option linter.unusedVariables false
set_option linter.unusedSimpArgs false
theorem impl_seen (v : Value) (m : Machine) (n : Int) (w : World) (h : Rv w v m) :
  Calls Tryz.prog 64 #[v, .int .i64 n] w fun e w' => e = .returned (.bool (M.seen m n)) ∧ Ext w w' := by
 have H := Lib.hid h
 obtain ⟨a0, c0, a1, c1, a2, c2, a3, c3, a4, c4, a5, c5, rfl, rt, h0, l0, h1, l1, h2, l2, h3, l3, h4, l4, h5, l5⟩ := h.openMachine
 clear h h0 h1 h2 h3 h4 h5
 go_enter Tryz.func64, Tryz.ntmps64
 go_upto_region 1 with (fail)
 refine abs_world (fun W => Ext w W ∧ Bk W w.heap.size [.slice a0 m.Plan.Parts.length c0, .slice a1 m.Plan.Channels.length c1, .slice a2 m.Plan.Slots.length c2, .slice a3 m.Programs.length c3, .slice a4 m.Cores.length c4, .slice a5 m.Holds.length c5, .int .i64 m.Tick] 42) ⟨(Ext.refl _).alloc _, Bk.new _ _ _⟩ ?_
 rintro W ⟨e1, kA⟩
 have HE0 := Lib.hid e1
 have d0 := kA.cell (j := 0) rfl
 have d1 := kA.cell (j := 1) rfl
 have d2 := kA.cell (j := 2) rfl
 have d3 := kA.cell (j := 3) rfl
 have d4 := kA.cell (j := 4) rfl
 have d5 := kA.cell (j := 5) rfl
 have d6 := kA.cell (j := 6) rfl
 have KA := Lib.hid kA
 clear e1 kA
 cases g : M.mv m
 ·go_wp2_with (go_at_call 44; refine (impl_MachineValid _ m _ (H.out.ext HE0.out)).mono ?_; rintro e w0 ⟨rfl, he⟩; rw [g]; have E := Lib.hid (HE0.out.tr he); have KAx := KA.out.ext he; have ltA := KAx.lt; have x0 := KAx.cell (j := 0) rfl; have x1 := KAx.cell (j := 1) rfl; have x2 := KAx.cell (j := 2) rfl; have x3 := KAx.cell (j := 3) rfl; have x4 := KAx.cell (j := 4) rfl; have x5 := KAx.cell (j := 5) rfl; have x6 := KAx.cell (j := 6) rfl;  clear he KAx)
  go_ret
  exact ⟨wp_cond_ret (by unfold M.seen; rw [g]; rfl), E.out⟩
 cases g1 : M.inn n 0 ((m.Cores.length : Int) - 1)
 all_goals
  go_wp2_with (first
   | (go_at_call 44; refine (impl_MachineValid _ m _ (H.out.ext HE0.out)).mono ?_; rintro e w0 ⟨rfl, he⟩; rw [g]; have E := Lib.hid (HE0.out.tr he); have KAx := KA.out.ext he; have ltA := KAx.lt; have x0 := KAx.cell (j := 0) rfl; have x1 := KAx.cell (j := 1) rfl; have x2 := KAx.cell (j := 2) rfl; have x3 := KAx.cell (j := 3) rfl; have x4 := KAx.cell (j := 4) rfl; have x5 := KAx.cell (j := 5) rfl; have x6 := KAx.cell (j := 6) rfl;  clear he KAx)
   | (go_at_call 61; refine (impl_in _ _ _ _).mono ?_; rintro e w9 ⟨rfl, rfl⟩; rw [g1]))
  go_ret
  exact ⟨wp_cond_ret (by unfold M.seen; rw [g, g1]; rfl), E.out⟩
end Sk
namespace Sk
open Go Go.Proofs Go.RowKit
set_option maxHeartbeats 8000000
set_option maxRecDepth 100000
set_option linter.unusedVariables false
set_option linter.unusedSimpArgs false
/-- A core of one's own is stored. -/
theorem Om.putCore {L M : Nat} {w W : World} {g o : Nat} {x y : Core} {F G : List Nat} {v : Value} (h : Om L w g o x F) (he : Ext w W) (hL : L ≤ M) (hM : w.heap.size ≤ M) (hy : GT.enc W [v, .int .i64 y.At, .bool y.Stopped] y G) (hG : Own M W G) :
  Chg g o 3 F w (((W.setCell ⟨g, o, none⟩ v).setCell ⟨g, o + 1, none⟩ (.int .i64 y.At)).setCell ⟨g, o + 2, none⟩ (.bool y.Stopped)) ∧ Om L (((W.setCell ⟨g, o, none⟩ v).setCell ⟨g, o + 1, none⟩ (.int .i64 y.At)).setCell ⟨g, o + 2, none⟩ (.bool y.Stopped)) g o y G ∧ ∀ k ∈ G, w.heap.size ≤ k := by
 obtain ⟨hlt, hLg, hgF, _⟩ := h.bk
 obtain ⟨a, c, h0, h1, h2, _⟩ := h.openC
 have hgG : g ∉ G := fun hm => by have := (hG.2 g hm).1; omega
 have hne : ∀ k ∈ G, k ≠ g := fun k hk e => hgG (e ▸ hk)
 refine ⟨(((Chg.ofExt he hlt).set ⟨by omega, by omega⟩ v).set ⟨by omega, by omega⟩ _).set ⟨by omega, by omega⟩ _, ⟨_, GT.keep hy (fun k hk => (heap_set_ne (hne k hk)).trans ((heap_set_ne (hne k hk)).trans (heap_set_ne (hne k hk)))), fun j u hj => ?_, List.nodup_cons.2 ⟨hgG, hG.1⟩, fun k hk => ?_⟩, fun k hk => Nat.le_trans hM (hG.2 k hk).1⟩
 ·match j, hj with
  | 0, hj => cases hj; exact (cell_set_other (by omega)).trans ((cell_set_other (by omega)).trans (cell_set ((cell_ext he hlt).trans h0)))
  | 1, hj => cases hj; exact (cell_set_other (by omega)).trans (cell_set ((cell_set_other (by omega)).trans ((cell_ext he hlt).trans h1)))
  | 2, hj => cases hj; exact cell_set ((cell_set_other (by omega)).trans ((cell_set_other (by omega)).trans ((cell_ext he hlt).trans h2)))
 ·rcases List.mem_cons.1 hk with rfl | hk
  ·exact ⟨hLg, (((h.own0.ext he).set _ _).set _ _).set _ _⟩
  ·exact ⟨Nat.le_trans hL (hG.2 k hk).1, (((hG.2 k hk).2.set _ _).set _ _).set _ _⟩
end Sk
