/- Contracts of functions of the given program, and lemmas for them: each theorem states the condition under which it holds. -/
import Derived.Test.YtoekeafibhnkgaaChecked
import Derived.ChangeArms
import Derived.Deep.CutBlock
import Derived.Deep.CutRange
import Derived.Test.YtoekeafibhnkgaaDrawPV
import Derived.Test.YtoekeafibhnkgaaAlive
import Derived.Test.YtoekeafibhnkgaaPol
import Derived.Test.YtoekeafibhnkgaaRead
import Derived.Test.YtoekeafibhnkgaaTypes
import Derived.Test.YtoekeafibhnkgaaRefc
import Derived.Test.YtoekeafibhnkgaaCt
import Derived.Test.YtoekeafibhnkgaaHelp
import Derived.Test.YtoekeafibhnkgaaTop
namespace Sk
open Go Go.Proofs Go.RowKit Go.ChangeShapes Go.WideShapes Go.ChangeAt Go.Deep
set_option maxHeartbeats 1600000
set_option maxRecDepth 100000
set_option linter.unusedVariables false
set_option linter.unusedSimpArgs false
theorem Rdr.byte {P : Program} {t : TypeId} (ht : P.underlying t = some (.int .u8)) (hc : P.cellsOf t = 1) : Rdr P t By :=
  ⟨hc, fun h => by
    obtain ⟨n, rfl, _, hw⟩ := DataW.trod_int ht h
    obtain ⟨h1, h2⟩ := bounds_u8 hw
    exact ⟨⟨n⟩, [], rfl, h1, h2, rfl⟩⟩
theorem rd_uint8S : Rdr Try.prog 22 (List By) := .slice (.byte Try.underlying5 (by kernel_rfl)) Try.underlying22 (by kernel_rfl)
theorem M.pv_more {p : List (List Bool)} {n : Int} (h : M.pv p n = true) : M.pv p (n + 1) = false := by
  refine Bo.f fun k => ?_
  have h1 := (Bo.iff.1 h).1
  have h2 := k.1
  omega
theorem M.pv_ff : M.pv [[false]] 1 = false := by
  refine Bo.f fun k => ?_
  have := (k.2.2.2 0 [false] rfl).2
  simp at this
theorem rs_ff (w : World) (T U : TypeId) : Rs ((w.alloc (.cells #[.bool false] T)).alloc (.cells #[.slice (some ⟨w.heap.size, 0, none⟩) 1 1] U)) (.slice (some ⟨w.heap.size + 1, 0, none⟩) 1 1) [[false]] := by
  have h0 : Sl (w.alloc (.cells #[.bool false] T)) (.slice (some ⟨w.heap.size, 0, none⟩) 1 1) [false] [w.heap.size] :=
    ⟨_, 1, rfl, by simp, by unfold maxLen; omega, .inr ⟨by simp, w.heap.size, 0, [], rfl, rfl, Row.lit1 (cs := [.bool false]) ⟨rfl, rfl⟩⟩⟩
  have h1 := Row.lit1 (cs := [.slice (some ⟨w.heap.size, 0, none⟩) 1 1]) (T := U) (x := [false]) (F := [w.heap.size]) (w := w.alloc (.cells #[.bool false] T)) ⟨_, rfl, h0⟩
  rw [show (w.alloc (.cells #[.bool false] T)).heap.size = w.heap.size + 1 by simp] at h1
  exact ⟨[w.heap.size + 1, w.heap.size], _, 1, rfl, by simp, by unfold maxLen; omega, .inr ⟨by simp, w.heap.size + 1, 0, [w.heap.size], rfl, rfl, h1⟩⟩
theorem lawPolicyValid (v : Value) (xs : List By) (w : World) (h : Rs w v xs) :
    Calls Try.prog 3 #[v] w fun e w' => e = .returned (.bool true) ∧ Ext w w' := by
  obtain ⟨a, c, rfl, hl⟩ := h.form
  have H := Lib.hid h
  clear h
  by_cases hx : xs.length ≤ 1048576
  · go_enter Try.func3, Try.ntmps3
    go_upto_if 21 with (first
      | (go_at_call 4; refine (spec_DrawPolicyValid _ _ _ H.out).mono ?_; rintro e w1 ⟨v', ps, z, rfl, hp, hz1, hz2, he⟩; have HP := Lib.hid hp.rs; have HE := Lib.hid he; clear hp he)
      | (go_at_call 5; refine (implPolicyValid _ ps z _ HP.out).mono ?_; rintro e w2 ⟨rfl, hq⟩; have HQ2 := Lib.hid hq.ext; clear hq)
      | (go_at_call 6; refine (specPolicyValid _ ps z _ (HP.out.ext HQ2.out)).mono ?_; rintro e w3 ⟨rfl, hq⟩; have HQ3 := Lib.hid (HQ2.out.tr hq.ext); clear hq))
    obtain ⟨a', c', rfl, hl'⟩ := HP.out.form
    have HS := Lib.hid (HE.out.tr HQ3.out)
    have HP3 := Lib.hid (HP.out.ext HQ3.out)
    clear HP HE HQ2 HQ3
    have hff := M.pv_ff
    cases hq : M.pv ps z
    · go_wp2_with (first
        | (go_at_call 5; refine (implPolicyValid _ [[false]] 1 _ (rs_ff w3 _ _)).mono ?_; rintro e w5 ⟨rfl, hq⟩; have HQ5 := Lib.hid ((((Ext.refl w3).alloc _).alloc _).tr hq.ext); clear hq)
        | (go_at_call 7; refine (law_alive _).mono ?_; rintro e w6 ⟨rfl, he⟩; have HE6 := Lib.hid he; clear he))
      go_ret
      exact ⟨rfl, (HS.out.tr HQ5.out).tr HE6.out⟩
    · have hmore := M.pv_more hq
      go_wp2_with (first
        | (go_at_call 5; refine (implPolicyValid _ [[false]] 1 _ (rs_ff w4 _ _)).mono ?_; rintro e w5 ⟨rfl, hq⟩; have HQ5 := Lib.hid ((((Ext.refl w4).alloc _).alloc _).tr hq.ext); clear hq)
        | (go_at_call 5; refine (implPolicyValid _ ps (z + 1) _ HP3.out).mono ?_; rintro e w4 ⟨rfl, hq⟩; have HQ4 := Lib.hid hq.ext; clear hq)
        | (go_at_call 7; refine (law_alive _).mono ?_; rintro e w6 ⟨rfl, he⟩; have HE6 := Lib.hid he; clear he))
      go_ret
      exact ⟨rfl, ((HS.out.tr HQ4.out).tr HQ5.out).tr HE6.out⟩
  · have hx2 : 1048576 < xs.length := by omega
    clear hx
    go_enter Try.func3, Try.ntmps3
    go_wp2
    go_ret
    exact ⟨rfl, Ext.refl w⟩
end Sk

namespace Sk
open Go Go.Proofs Go.RowKit
set_option maxHeartbeats 800000
set_option maxRecDepth 100000
set_option linter.unusedVariables false
set_option linter.unusedSimpArgs false
theorem Mx.own {F G : List Nat} {L : Nat} {a b : World} (h : Mx F a b) (ho : Own L a G) : Own L b G := ⟨ho.1, fun x hx => ⟨(ho.2 x hx).1, h.2.2.2 x (ho.2 x hx).2⟩⟩
theorem mkT_ct_Setup (x : Setup) (k : Int) : (x.mkT k).ctT = x.ctT := GT.mkE_ct _ _
theorem mkT_idem_Setup (x : Setup) (k : Int) : (x.mkT k).mkT k = x.mkT k := GT.mkE_idem _ _
theorem mkT_ct_Board (x : Board) (k : Int) : (x.mkT k).ctT = x.ctT := GT.mkE_ct _ _
theorem mkT_idem_Board (x : Board) (k : Int) : (x.mkT k).mkT k = x.mkT k := GT.mkE_idem _ _
theorem mkT_ct_Machine (x : Machine) (k : Int) : (x.mkT k).ctT = x.ctT := by simp only [Machine.mkT, Machine.ctT, GT.mkE_ct]
theorem mkT_idem_Machine (x : Machine) (k : Int) : (x.mkT k).mkT k = x.mkT k := by simp only [Machine.mkT, GT.mkE_ct, GT.mkE_idem]
theorem mkT_ct_Watch (x : Watch) (k : Int) : (x.mkT k).ctT = x.ctT := by simp only [Watch.mkT, Watch.ctT, GT.mkE_ct, mkT_ct_Machine]
theorem mkT_idem_Watch (x : Watch) (k : Int) : (x.mkT k).mkT k = x.mkT k := by simp only [Watch.mkT, mkT_ct_Machine, mkT_idem_Machine, GT.mkE_idem]
end Sk

