/- Contracts of functions of the given program, and lemmas for them: each theorem states the condition under which it holds. -/
import Derived.Test.YtiepblmmldgmgaaChecked
import Derived.Deep.CutBlock
import Derived.Deep.CutRange
import Derived.Test.YtiepblmmldgmgaaDel
import Derived.Test.YtiepblmmldgmgaaBuild
import Derived.Test.YtiepblmmldgmgaaRead
import Derived.Test.YtiepblmmldgmgaaTypes
import Derived.Test.YtiepblmmldgmgaaApp
import Derived.Test.YtiepblmmldgmgaaScal
import Derived.Test.YtiepblmmldgmgaaRefc
import Derived.Test.YtiepblmmldgmgaaDrawB
import Derived.Test.YtiepblmmldgmgaaDrawPt
import Derived.Test.YtiepblmmldgmgaaNumsS
import Derived.Test.YtiepblmmldgmgaaReadI
import Derived.Test.YtiepblmmldgmgaaReadS
import Derived.Test.YtiepblmmldgmgaaSeal
import Derived.Test.YtiepblmmldgmgaaOb
import Derived.Test.YtiepblmmldgmgaaHelp
namespace Sk
open Go Go.Proofs Go.RowKit
set_option maxHeartbeats 1600000
set_option maxRecDepth 100000
set_option linter.unusedVariables false
set_option linter.unusedSimpArgs false
theorem rs_one {w : World} {T : TypeId} {z : Int} (h : rng z) : Rs (w.alloc (.cells #[.int .i64 z] T)) (.slice (some ⟨w.heap.size, 0, none⟩) 1 1) [z] :=
  ⟨[w.heap.size], _, 1, rfl, by simp, by unfold maxLen; omega, .inr ⟨by simp, w.heap.size, 0, [], rfl, rfl, Row.lit1 (cs := [.int .i64 z]) ⟨rfl, h, rfl⟩⟩⟩
theorem Rs.row {α : Type} [GT α] [Fl α] {w : World} {a : Option Addr} {n c : Nat} {xs : List α} (h : Rs w (.slice a n c) xs) (hx : 0 < xs.length) : ∃ g o, a = some ⟨g, o, none⟩ ∧ n = xs.length ∧ Row w g o xs [] := by
  obtain ⟨F, a', c', he, hl, hc, hr⟩ := h
  cases he
  rcases hr with ⟨rfl, _⟩ | ⟨_, b, o, F', rfl, rfl, hr⟩
  · cases hx
  · have := hr.fl
    subst this
    exact ⟨b, o, rfl, rfl, hr⟩
theorem Os.own1 {α : Type} [GT α] [Fl α] {e : TypeId} {L : Nat} {w : World} {v : Value} {xs : List α} (h : Oo e L w v xs) : ∃ F, GT.enc w [v] xs F ∧ Own L w F := by
  obtain ⟨F, h1, h2⟩ := h.os
  exact ⟨F, ⟨v, rfl, h1⟩, h2⟩
end Sk

namespace Sk
open Go Go.Proofs Go.RowKit
set_option maxHeartbeats 4000000
set_option maxRecDepth 100000
set_option linter.unusedVariables false
set_option linter.unusedSimpArgs false
theorem lawReadSetup (v : Value) (xs : List By) (w : World) (h : Rs w v xs) :
    Calls Try.prog 4 #[v] w fun e w' => e = .returned (.bool true) ∧ Ext w w' := by
  obtain ⟨a, c, rfl, hl⟩ := h.form
  have H := Lib.hid h
  clear h
  by_cases hx : xs.length ≤ 1048576
  · go_enter Try.func4, Try.ntmps4
    go_upto_region 4 with (go_at_call 15; refine (spec_DrawReadSetup _ _ _ H.out).mono ?_; rintro e w1 ⟨v', ys, rfl, hp, hyl, he⟩; obtain ⟨p1, q1, rfl, hq1⟩ := hp.rs.form; have HL := Lib.hid hp.rs; have HE := Lib.hid he; clear hp he)
    obtain ⟨x, ok, hro⟩ : ∃ x ok, M.readS ys = (x, ok) := ⟨_, _, rfl⟩
    go_upto_region 5 with (go_at_call 14; refine (impl_ReadSetup _ ys _ HL.out).mono ?_; rintro e w2 ⟨v2, rfl, ho, he⟩; rw [hro] at ho ⊢; simp only at ho ⊢; obtain ⟨x0, y0, x1, y1, x2, y2, rfl, _⟩ := ho.rv.openSetup; have HX2 := Lib.hid ho.rv; have HE2 := Lib.hid he; clear ho he)
    refine abs_world (fun W2 => Ext w2 W2 ∧ Bk W2 w2.heap.size [.slice x0 x.Parts.length y0, .slice x1 x.Channels.length y1, .slice x2 x.Slots.length y2] 27) ⟨(Ext.refl _).alloc _, Bk.new _ _ _⟩ ?_
    rintro W2 ⟨e2, kB⟩
    replace HX2 := Lib.hid (HX2.out.ext e2)
    replace HE2 := Lib.hid (HE2.out.tr e2)
    have KB := Lib.hid kB
    have hB := kB.lt
    clear e2 kB
    go_upto_region 6 with (go_at_call 16; refine (spec_ReadSetup _ ys _ (HL.out.ext HE2.out)).mono ?_; rintro e w3 ⟨v3, rfl, ho, he⟩; rw [hro] at ho ⊢; simp only at ho ⊢; obtain ⟨z0, u0, z1, u1, z2, u2, rfl, _⟩ := ho.openSetup; have HX3 := Lib.hid ho; have HE3 := Lib.hid he; clear ho he)
    refine abs_world (fun W3 => Ext w3 W3 ∧ Bk W3 w3.heap.size [.slice z0 x.Parts.length u0, .slice z1 x.Channels.length u1, .slice z2 x.Slots.length u2] 27) ⟨(Ext.refl _).alloc _, Bk.new _ _ _⟩ ?_
    rintro W3 ⟨e3, kC⟩
    replace HX3 := Lib.hid (HX3.out.ext e3)
    replace HE3 := Lib.hid (HE3.out.tr e3)
    have hC := kC.lt
    have KB3 := KB.out.ext HE3.out
    have b0 := KB3.cell (j := 0) rfl
    have b1 := KB3.cell (j := 1) rfl
    have b2 := KB3.cell (j := 2) rfl
    have hB3 := KB3.lt
    have c0 := kC.cell (j := 0) rfl
    have c1 := kC.cell (j := 1) rfl
    have c2 := kC.cell (j := 2) rfl
    replace HX2 := Lib.hid (HX2.out.ext HE3.out)
    replace HL := Lib.hid (HL.out.ext (HE2.out.tr HE3.out))
    have HS := Lib.hid (HE.out.tr (HE2.out.tr HE3.out))
    clear kC e3 HE2 HE3 HE KB hB H
    obtain ⟨N, hN⟩ : ∃ N, M.numbers x = N := ⟨_, rfl⟩
    replace KB3 := Lib.hid KB3
    have hok : (ok != ok) = false := by simp
    go_region_held3 (fun u => u.cell? ⟨w2.heap.size, 0, none⟩ = some (.slice x0 x.Parts.length y0) ∧ u.cell? ⟨w2.heap.size, 1, none⟩ = some (.slice x1 x.Channels.length y1) ∧ u.cell? ⟨w2.heap.size, 2, none⟩ = some (.slice x2 x.Slots.length y2) ∧ u.cell? ⟨w3.heap.size, 0, none⟩ = some (.slice z0 x.Parts.length u0) ∧ u.cell? ⟨w3.heap.size, 1, none⟩ = some (.slice z1 x.Channels.length u1) ∧ u.cell? ⟨w3.heap.size, 2, none⟩ = some (.slice z2 x.Slots.length u2))
      (first
        | go_keep
        | exact ⟨(cell_ext HE4.out hB3).trans b0, (cell_ext HE4.out hB3).trans b1, (cell_ext HE4.out hB3).trans b2, (cell_ext HE4.out hC).trans c0, (cell_ext HE4.out hC).trans c1, (cell_ext HE4.out hC).trans c2⟩)
      (first
        | (go_at_call 10; refine (impl_SetupNumbers _ x _ (HX2.out.ext (Ext.refl W3).drew)).mono ?_; rintro e w4 ⟨v4, rfl, ho, he⟩; rw [hN] at ho; have HO4 := Lib.hid ho.rs; have HE4 := Lib.hid ((Ext.refl W3).drew.tr he); clear ho he)
        | (go_at_call 12; refine (spec_SetupNumbers _ x _ (HX3.out.ext HE4.out)).mono ?_; rintro e w5 ⟨v5, rfl, ho, he⟩; rw [hN] at ho; have HO5 := Lib.hid ho.rs; replace HO4 := Lib.hid (HO4.out.ext he); replace HE4 := Lib.hid (HE4.out.tr he); clear ho he)
        | (go_at_call 11; refine (law_sameInts _ _ N N _ HO4.out HO5.out).mono ?_; rintro e w6 ⟨rfl, he⟩; rw [Eqb.t (rfl : N = N)]; replace HE4 := Lib.hid (HE4.out.tr he); clear he))
    have KB6 := KB3.out.ext HE4.out
    have f0 := KB6.cell (j := 0) rfl
    have f1 := KB6.cell (j := 1) rfl
    have f2 := KB6.cell (j := 2) rfl
    have hB6 := KB6.lt
    have HS6 := Lib.hid (HS.out.tr HE4.out)
    replace HX2 := Lib.hid (HX2.out.ext HE4.out)
    replace HL := Lib.hid (HL.out.ext HE4.out)
    replace KB6 := Lib.hid KB6
    clear HO4 HO5 HS HX3 b0 b1 b2 c0 c1 c2 KB3 hok HE4
    rcases M.readS_cases ys with ⟨t, hs, hn, hr⟩ | hr
    · obtain ⟨rfl, rfl⟩ : x = t ∧ ok = true := by rw [hro] at hr; cases hr; exact ⟨rfl, rfl⟩
      have hny : M.numbers x = ys := by unfold M.numbers; rw [if_pos hs]; exact hn
      obtain rfl : ys = N := hny.symm.trans hN
      replace hN := Lib.hid hN
      replace hs := Lib.hid hs
      clear hny hn hr hro
      go_wp2_with (first
        | (go_at_call 10; refine (impl_SetupNumbers _ x _ HX2.out).mono ?_; rintro e w7 ⟨v7, rfl, ho, he⟩; rw [hN.out] at ho; have HO7 := Lib.hid ho.rs; obtain ⟨p7, q7, rfl, _⟩ := ho.rs.form; have HE7 := Lib.hid he; clear ho he)
        | (go_at_call 11; refine (law_sameInts _ _ ys ys _ HO7.out (HL.out.ext HE7.out)).mono ?_; rintro e w8 ⟨rfl, he⟩; rw [Eqb.t (rfl : ys = ys)]; have HE8 := Lib.hid (HE7.out.tr he); have KB8 := KB6.out.ext HE8.out; have f0 := KB8.cell (j := 0) rfl; have f1 := KB8.cell (j := 1) rfl; have f2 := KB8.cell (j := 2) rfl; clear he)
        | (go_at_call 17; refine (impl_SetupValid _ x _ (HX2.out.ext HE8.out)).mono ?_; rintro e w9 ⟨rfl, he⟩; rw [hs.out]; have HE9 := Lib.hid (HE8.out.tr he); clear he))
      go_ret
      exact ⟨rfl, HS6.out.tr HE9.out⟩
    · obtain ⟨rfl, rfl⟩ : x = default ∧ ok = false := by rw [hro] at hr; cases hr; exact ⟨rfl, rfl⟩
      have z1 : (default : Setup).Parts.length = 0 := rfl
      have z2 : (default : Setup).Channels.length = 0 := rfl
      have z3 : (default : Setup).Slots.length = 0 := rfl
      clear KB6 HX2
      simp only [z1, z2, z3] at f0 f1 f2
      go_wp2_with (go_at_call 13; refine (law_alive _).mono ?_; rintro e w6 ⟨rfl, he⟩; have HE6 := Lib.hid he; clear he)
      go_ret
      exact ⟨rfl, HS6.out.tr HE6.out⟩
  · have hx2 : 1048576 < xs.length := by omega
    clear hx
    go_enter Try.func4, Try.ntmps4
    go_wp2
    go_ret
    exact ⟨rfl, Ext.refl w⟩
end Sk

namespace Sk
open Go Go.Proofs Go.RowKit
set_option maxHeartbeats 800000
set_option maxRecDepth 100000
set_option linter.unusedVariables false
set_option linter.unusedSimpArgs false
theorem Mx.own {F G : List Nat} {L : Nat} {a b : World} (h : Mx F a b) (ho : Own L a G) : Own L b G := ⟨ho.1, fun x hx => ⟨(ho.2 x hx).1, h.2.2.2 x (ho.2 x hx).2⟩⟩
theorem mkT_ct_Setup (x : Setup) (k : Int) : (x.mkT k).ctT = x.ctT := GT.mkE_ct _ _
theorem mkT_idem_Setup (x : Setup) (k : Int) : (x.mkT k).mkT k = x.mkT k := GT.mkE_idem _ _
theorem mkT_ct_Board (x : Board) (k : Int) : (x.mkT k).ctT = x.ctT := GT.mkE_ct _ _
theorem mkT_idem_Board (x : Board) (k : Int) : (x.mkT k).mkT k = x.mkT k := GT.mkE_idem _ _
theorem mkT_ct_Machine (x : Machine) (k : Int) : (x.mkT k).ctT = x.ctT := by simp only [Machine.mkT, Machine.ctT, GT.mkE_ct]
theorem mkT_idem_Machine (x : Machine) (k : Int) : (x.mkT k).mkT k = x.mkT k := by simp only [Machine.mkT, GT.mkE_ct, GT.mkE_idem]
theorem mkT_ct_Watch (x : Watch) (k : Int) : (x.mkT k).ctT = x.ctT := by simp only [Watch.mkT, Watch.ctT, GT.mkE_ct, mkT_ct_Machine]
theorem mkT_idem_Watch (x : Watch) (k : Int) : (x.mkT k).mkT k = x.mkT k := by simp only [Watch.mkT, mkT_ct_Machine, mkT_idem_Machine, GT.mkE_idem]
end Sk

