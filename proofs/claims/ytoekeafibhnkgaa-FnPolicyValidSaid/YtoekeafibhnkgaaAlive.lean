/- Contracts of functions of the given program, and lemmas for them: each theorem states the condition under which it holds. -/
import Derived.Test.YtoekeafibhnkgaaChecked
import Derived.Deep.CutBlock
import Derived.Deep.CutRange
import Derived.Test.YtoekeafibhnkgaaValid
import Derived.Test.YtoekeafibhnkgaaFind
import Derived.Test.YtoekeafibhnkgaaHelp
import Derived.Test.YtoekeafibhnkgaaRefc
import Derived.Test.YtoekeafibhnkgaaAcc
namespace Sk
open Go Go.Proofs Go.RowKit
set_option maxHeartbeats 1600000
set_option maxRecDepth 100000
set_option linter.unusedVariables false
set_option linter.unusedSimpArgs false
theorem impl_Window_has (w : World) : Calls Try.prog 18 #[.agg #[.int .i64 5, .int .i64 2, .bool false], .int .i64 6] w fun e w' => e = .returned (.bool true) ∧ Ext w w' := by
  have hi : M.inn 6 5 6 = true := by decide
  go_enter Try.func18, Try.ntmps18
  go_wp2_with (go_at_call 11; refine (impl_in _ _ _ _).mono ?_; rintro e w' ⟨rfl, rfl⟩)
  go_ret
  exact ⟨rfl, (Ext.refl w).alloc _⟩
theorem impl_WindowAt_1 (p q : Nat) (w : World) (hp : w.cell? ⟨p, 0, none⟩ = some (.int .i64 6)) (hq : w.cell? ⟨q, 0, none⟩ = some (.bool false)) (hpl : p < w.heap.size) (hql : q < w.heap.size) :
    Calls Try.prog 17 #[.agg #[.int .i64 5, .int .i64 2, .bool false], .pointer (some ⟨p, 0, none⟩), .pointer (some ⟨q, 0, none⟩)] w fun e w' => e = .returned (.bool true) ∧ Ext w w' := by
  have HQ := Lib.hid hq
  clear hq
  go_enter Try.func17, Try.ntmps17
  have HB := Lib.hid ((Ext.refl w).alloc (.cells #[.int .i64 5, .int .i64 2, .bool false] 38))
  have b2 := (Bk.new w [.int .i64 5, .int .i64 2, .bool false] 38)
  go_wp2_with (go_at_call 18; refine (impl_Window_has _).mono ?_; rintro e w1 ⟨rfl, he⟩; have c2 := (b2.ext he).cell (j := 2) rfl; have cq : w1.cell? ⟨q, 0, none⟩ = some (.bool false) := ((bcell (HB.out.tr he)).1 q 0 hql).trans HQ.out; have HE := Lib.hid (HB.out.tr he); clear he)
  go_ret
  exact ⟨rfl, HE.out⟩
theorem impl_WindowAt6 (v : Value) (w : World) (h : Rs (α := Window) w v [⟨5, 2, false⟩]) :
    Calls Try.prog 13 #[v, .int .i64 6, .bool false] w fun e w' => e = .returned (.int .i64 0) ∧ Ext w w' := by
  have H := Lib.hid h
  obtain ⟨a, c, rfl, hl⟩ := h.form
  have hv : M.wsv [⟨5, 2, false⟩] = true := by decide
  clear h
  go_enter Try.func13, Try.ntmps13
  go_upto_region 1 with (fail)
  refine abs_world (fun W => Ext w W ∧ W.cell? ⟨w.heap.size, 0, none⟩ = some (.int .i64 6) ∧ W.cell? ⟨w.heap.size + 1, 0, none⟩ = some (.bool false) ∧ w.heap.size + 1 < W.heap.size) ⟨((Ext.refl w).alloc _).alloc _, ((Bk.new w [.int .i64 6] 3).ext ((Ext.refl _).alloc _)).cell (j := 0) rfl, (Bk.new1 _ _ _ _).cell (j := 0) rfl, by simp⟩ ?_
  rintro W ⟨e0, c0, c1, hz⟩
  have HE := Lib.hid e0
  have C0 := Lib.hid c0
  have C1 := Lib.hid c1
  clear e0 c0 c1
  go_wp2_with (first
    | (go_at_call 15; refine (impl_WindowsValid _ _ _ (H.out.ext HE.out)).mono ?_; rintro e w1 ⟨rfl, he⟩; have HE1 := Lib.hid he; have hs1 := he.sz; clear he)
    | (go_at_call 16; refine (idx_Window 17 #[.pointer (some ⟨w.heap.size, 0, none⟩), .pointer (some ⟨w.heap.size + 1, 0, none⟩)] (fun _ => true) _ _ _ (H.out.ext (HE.out.tr HE1.out)) (enter_of Try.func17 (by kernel_rfl) (by kernel_rfl)) ?_).mono ?_))
  · intro w3 v3 x3 he hx hv3
    rw [List.mem_singleton] at hx
    subst hx
    obtain ⟨rfl, _, _⟩ := hv3.openWindow
    have hb := (bcell (HE1.out.tr he)).1
    exact impl_WindowAt_1 _ _ w3 ((hb _ 0 (by omega)).trans C0.out) ((hb _ 0 (by omega)).trans C1.out) (by have := he.sz; omega) (by have := he.sz; omega)
  · rintro e w3 ⟨rfl, he3⟩
    have hi : M.idx (fun _ => true) [(⟨5, 2, false⟩ : Window)] = 0 := rfl
    have HE3 := Lib.hid he3
    clear he3
    simp only [hi]
    go_wp2
    go_ret
    exact ⟨rfl, (HE.out.tr HE1.out).tr HE3.out⟩
theorem law_alive (w : World) : Calls Try.prog 7 #[] w fun e w' => e = .returned (.bool true) ∧ Ext w w' := by
  have hr : Rs (α := Window) ((w.alloc (.cells #[.int .i64 5, .int .i64 2, .bool false] 38))) (.slice (some ⟨w.heap.size, 0, none⟩) 1 1) [⟨5, 2, false⟩] :=
    ⟨[w.heap.size], _, 1, rfl, by simp, by unfold maxLen; omega, .inr ⟨by simp, w.heap.size, 0, [], rfl, rfl, Row.lit1 (cs := [.int .i64 5, .int .i64 2, .bool false]) ⟨rfl, ⟨by show _ ≤ (5 : Int); omega, by show (5 : Int) ≤ _; omega⟩, ⟨by show _ ≤ (2 : Int); omega, by show (2 : Int) ≤ _; omega⟩, rfl⟩⟩⟩
  have HR := Lib.hid hr
  clear hr
  go_enter Try.func7, Try.ntmps7
  go_wp2_with (go_at_call 13; refine (impl_WindowAt6 _ _ HR.out).mono ?_; rintro e w1 ⟨rfl, he⟩; have HE := Lib.hid (((Ext.refl w).alloc _).tr he); clear he)
  go_ret
  exact ⟨rfl, HE.out⟩
end Sk

