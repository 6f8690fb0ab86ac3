/- Contracts of functions of the given program, and lemmas for them: each theorem states the condition under which it holds. -/
import Derived.Test.YtiepblmmldgmgaaChecked
import Derived.Deep.CutBlock
import Derived.Deep.CutRange
import Derived.Test.YtiepblmmldgmgaaSeal
import Derived.Test.YtiepblmmldgmgaaNumsS
import Derived.Test.YtiepblmmldgmgaaMix
import Derived.Test.YtiepblmmldgmgaaDrawB
import Derived.Test.YtiepblmmldgmgaaRefc
import Derived.Test.YtiepblmmldgmgaaDel
import Derived.Test.YtiepblmmldgmgaaBuild
import Derived.Test.YtiepblmmldgmgaaRead
import Derived.Test.YtiepblmmldgmgaaTypes
import Derived.Test.YtiepblmmldgmgaaApp
import Derived.Test.YtiepblmmldgmgaaScal
import Derived.Test.YtiepblmmldgmgaaDrawPt
import Derived.Test.YtiepblmmldgmgaaHelp
import Derived.Test.YtiepblmmldgmgaaReadI
import Derived.Test.YtiepblmmldgmgaaReadS
import Derived.Test.YtiepblmmldgmgaaOpen
import Derived.Test.YtiepblmmldgmgaaOb
namespace Sk
open Go Go.Proofs Go.RowKit
set_option maxHeartbeats 1600000
set_option maxRecDepth 100000
set_option linter.unusedVariables false
set_option linter.unusedSimpArgs false
theorem spec_SealSetup (v : Value) (s : Setup) (key : Int) (w : World) (h : Rv w v s) :
    Calls Try.prog 28 #[v, .int .i64 key] w fun e w' => ∃ v', e = .returned v' ∧ Oo 3 w.heap.size w' v' (M.sealed s key) ∧ Ext w w' := by
  have H := Lib.hid h
  obtain ⟨a0, c0, a1, c1, a2, c2, rfl, h0, hl0, h1, hl1, h2, hl2⟩ := h.openSetup
  clear h h0 h1 h2
  have e0 := Lib.hid ((Ext.refl w).alloc (.cells #[.slice a0 s.Parts.length c0, .slice a1 s.Channels.length c1, .slice a2 s.Slots.length c2] 27))
  cases g : M.setv s
  · have hm : Hid (M.sealed s key = []) := Lib.hid (by unfold M.sealed; rw [g]; rfl)
    go_enter Try.func28, Try.ntmps28
    go_wp2_with (go_at_call 36; refine (spec_SetupValid _ s _ (H.out.ext e0.out)).mono ?_; rintro e w1 ⟨he, he1⟩; rw [g] at he; subst he; have E1 := Lib.hid (e0.out.tr he1); clear he1)
    go_ret
    exact ⟨_, rfl, by rw [hm.out]; exact (Oo.lit0 (α := Int) 3 w1).mono E1.out.sz, E1.out.alloc _⟩
  · cases k : M.inn key 0 1048572
    · have hm : Hid (M.sealed s key = []) := Lib.hid (by unfold M.sealed; rw [g, k]; rfl)
      go_enter Try.func28, Try.ntmps28
      go_wp2_with (first
        | (go_at_call 36; refine (spec_SetupValid _ s _ (H.out.ext e0.out)).mono ?_; rintro e w1 ⟨he, he1⟩; rw [g] at he; subst he; have E1 := Lib.hid (e0.out.tr he1); clear he1)
        | (go_at_call 45; refine (spec_In _ _ _ _).mono ?_; rintro e w2 ⟨he, rfl⟩; rw [k] at he; subst he))
      go_ret
      exact ⟨_, rfl, by rw [hm.out]; exact (Oo.lit0 (α := Int) 3 w1).mono E1.out.sz, E1.out.alloc _⟩
    · have hm : Hid (M.sealed s key = M.nums s ++ [M.mix key (M.nums s)]) := Lib.hid (by unfold M.sealed; rw [g, k]; rfl)
      have hN : Hid (M.numbers s = M.nums s) := Lib.hid (by unfold M.numbers; rw [if_pos g])
      have hnl := M.nums_len g
      have hk := M.inn_iff.1 k
      obtain ⟨hk0, hk1⟩ := hk
      have hmr := M.mix_rng ⟨hk0, hk1⟩ (M.nums s)
      go_enter Try.func28, Try.ntmps28
      go_upto_region 4 with (first
        | (go_at_call 36; refine (spec_SetupValid _ s _ (H.out.ext e0.out)).mono ?_; rintro e w1 ⟨he, he1⟩; rw [g] at he; subst he; have E1 := Lib.hid (e0.out.tr he1); obtain ⟨hz, x0, x1, x2⟩ := box3 he1; clear he1)
        | (go_at_call 45; refine (spec_In _ _ _ _).mono ?_; rintro e w2 ⟨he, rfl⟩; rw [k] at he; subst he)
        | (go_at_call 12; refine (spec_SetupNumbers _ s _ (H.out.ext E1.out)).mono ?_; rintro e w3 ⟨v3, rfl, ho, he3⟩; rw [hN.out] at ho; have HO := Lib.hid ho; have E3 := Lib.hid (E1.out.tr he3); obtain ⟨a3, n3, c3, rfl⟩ := ho.sh; clear ho he3))
      have hs3 := E3.out.sz
      have hs1 := E1.out.sz
      have hnl2 := M.nums_len g
      go_wp2_with (first
        | (go_at_call 61; refine (spec_MixNumbers _ (M.nums s) key _ HO.out.rs hk0 hk1).mono ?_; rintro e w4 ⟨rfl, rfl⟩)
        | (at_builtin; refine wpl_appO (u := w3) (α := Int) rfl _ _ 29 rfl 3 Try.underlying29 elInt (v := .slice a3 n3 c3) (ys := [M.mix key (M.nums s)]) rfl (HO.out.mono hs1) ((Ext.refl _).alloc _) hs3 rfl rfl (CI.row ⟨by simp, rng_of (by omega) (by omega), trivial⟩) (by simp) (Own.nil _ _) (by omega) ?_; intro v5 w5 hO5 hg5; have HO5 := Lib.hid hO5; have E5 := Lib.hid (Ext.grown (E3.out.alloc _) hg5 (HO.out.mono hs1).own); obtain ⟨p5, n5, q5, rfl⟩ := hO5.sh; clear hO5 hg5))
      go_ret
      exact ⟨_, rfl, by rw [hm.out]; exact HO5.out, E5.out⟩
end Sk

namespace Sk
open Go Go.Proofs Go.RowKit
set_option maxHeartbeats 1600000
set_option maxRecDepth 100000
set_option linter.unusedVariables false
set_option linter.unusedSimpArgs false
theorem M.numbers_len (s : Setup) : (M.numbers s).length ≤ 1000 := by
  unfold M.numbers
  cases h : M.setv s
  · simp
  · exact M.nums_len h
theorem M.seal_len (s : Setup) (key : Int) : (M.sealed s key).length ≤ 1001 := by
  unfold M.sealed
  split
  · rename_i h
    have := M.nums_len (Bool.and_eq_true_iff.1 h).1
    simp; omega
  · simp
theorem spec_DrawOpenSetup (v : Value) (xs : List By) (w : World) (h : Rs w v xs) :
    Calls Try.prog 30 #[v] w fun e w' => ∃ (v' : Value) (ys : List Int) (z : Int), e = .returned (.tuple #[v', .int .i64 z]) ∧ Rsb w.heap.size w' v' ys ∧ ys.length ≤ 1101 ∧ -1 ≤ z ∧ z ≤ 1048573 ∧ Ext w w' := by
  have H := Lib.hid h
  clear h
  go_enter Try.func30, Try.ntmps30
  go_upto_region 3 with (first
    | (go_at_call 62; refine (spec_pick w _ b (100 + 500) 256 HR.out (rng_sm (by omega) (by omega))).mono ?_; rintro e w2 ⟨k, rfl, hk, hm, hr⟩; have hkb := hk.lt (by omega); have HE2 := Lib.hid ((Mw.ofMo hm).ext HE.out (by simpa using hb)); have HR2 := Lib.hid hr; clear hk hm hr)
    | (go_at_call 33; refine (spec_l20Open _ _ _ H.out).mono ?_; rintro e w1 ⟨b, rfl, hb, he, hr⟩; have HE := Lib.hid he; have HR : Hid (Rd w w1 b (100 + 500 + 1)) := Lib.hid (hr.le (by omega)); clear he hr))
  obtain ⟨hk1, hk2⟩ := hkb
  go_upto_if 17 with (first
    | (go_at_call 55; refine (spec_odd w _ b 99 _ HR4.out (rng_sm (by omega) (by omega))).mono ?_; rintro e w5 ⟨⟨q, rfl⟩, hm, hr⟩; have HE5 := Lib.hid ((Mw.ofMo hm).ext HE4.out (by simpa using hb)); have HO5 := Lib.hid (HO4.out.mo hm (by simp; omega)); have HR5 := Lib.hid hr; clear hm hr)
    | (go_at_call 28; refine (spec_SealSetup _ s _ _ HV3.out).mono ?_; rintro e w4 ⟨v4, rfl, ho, he⟩; obtain ⟨ns, hns⟩ : ∃ ns, M.sealed s (k * 4097) = ns := ⟨_, rfl⟩; rw [hns] at ho; have hbl4 := HR3.out.lt; have HO4 := Lib.hid ho; have HR4 : Hid (Rd w w4 b (99 + 1)) := Lib.hid (HR3.out.ext he); have HE4 := Lib.hid (HE3.out.tr he); obtain ⟨p4, n4, q4, rfl⟩ := ho.sh; clear ho he)
    | (go_at_call 32; refine (spec_l20Setup w _ b 100 _ HR2.out (by omega) (by omega)).mono ?_; rintro e w3 ⟨v3, s, rfl, hv, hds, hm, hr⟩; have HV3 := Lib.hid hv.rv; have HE3 := Lib.hid (hm.ext HE2.out (by simpa using hb)); have HR3 := Lib.hid hr; clear hv hds hm hr))
  have hnl : ns.length ≤ 1100 := by have := M.seal_len s (k * 4097); rw [hns] at this; omega
  have hsz5 := HE5.out.sz
  cases q
  · go_wp2_with (go_at_call 42; refine (spec_l20Bend w _ b 0 _ ns 3 (HR5.out.le (by omega)) HO5.out.rs hnl (by omega) (by omega)).mono ?_; rintro e w6 ⟨v6, ys, rfl, hp, hyl, hm, hr⟩; have HP6 := Lib.hid (hp.mono hsz5); have HE6 := Lib.hid (hm.ext HE5.out (by simpa using hb)); clear hp hm hr)
    refine bodyPost_ret (v := .tuple #[v6, .int .i64 (k * 4097)]) (by simp [results, Try.results30, go_sem]) rfl ⟨v6, ys, k * 4097, rfl, HP6.out, hyl, by omega, by omega, HE6.out⟩
  · go_wp2_with (first
      | (go_at_call 42; refine (spec_l20Bend w _ b 0 _ ns 3 (HR7.out.le (by omega)) HO7.out.rs hnl (by omega) (by omega)).mono ?_; rintro e w6 ⟨v6, ys, rfl, hp, hyl, hm, hr⟩; have HP6 := Lib.hid (hp.mono HE7.out.sz); have HE6 := Lib.hid (hm.ext HE7.out (by simpa using hb)); clear hp hm hr)
      | (go_at_call 57; refine (spec_l20Key w _ b 96 HR5.out).mono ?_; rintro e w7 ⟨z, rfl, ⟨hz1, hz2⟩, hm, hr⟩; have HE7 := Lib.hid (hm.ext HE5.out (by simpa using hb)); have HO7 := Lib.hid ((HO5.out.ob.of (w' := w7) (fun k h1 h2 => hm.2.2 k h2 (by simp; omega))).oo); have HR7 := Lib.hid hr; clear hm hr))
    refine bodyPost_ret (v := .tuple #[v6, .int .i64 z]) (by simp [results, Try.results30, go_sem]) rfl ⟨v6, ys, z, rfl, HP6.out, hyl, hz1, hz2, HE6.out⟩
end Sk

namespace Sk
open Go Go.Proofs Go.RowKit
set_option maxHeartbeats 1600000
set_option maxRecDepth 100000
set_option linter.unusedVariables false
set_option linter.unusedSimpArgs false
theorem rs_one {w : World} {T : TypeId} {z : Int} (h : rng z) : Rs (w.alloc (.cells #[.int .i64 z] T)) (.slice (some ⟨w.heap.size, 0, none⟩) 1 1) [z] :=
  ⟨[w.heap.size], _, 1, rfl, by simp, by unfold maxLen; omega, .inr ⟨by simp, w.heap.size, 0, [], rfl, rfl, Row.lit1 (cs := [.int .i64 z]) ⟨rfl, h, rfl⟩⟩⟩
theorem Rs.row {α : Type} [GT α] [Fl α] {w : World} {a : Option Addr} {n c : Nat} {xs : List α} (h : Rs w (.slice a n c) xs) (hx : 0 < xs.length) : ∃ g o, a = some ⟨g, o, none⟩ ∧ n = xs.length ∧ Row w g o xs [] := by
  obtain ⟨F, a', c', he, hl, hc, hr⟩ := h
  cases he
  rcases hr with ⟨rfl, _⟩ | ⟨_, b, o, F', rfl, rfl, hr⟩
  · cases hx
  · have := hr.fl
    subst this
    exact ⟨b, o, rfl, rfl, hr⟩
theorem Os.own1 {α : Type} [GT α] [Fl α] {e : TypeId} {L : Nat} {w : World} {v : Value} {xs : List α} (h : Oo e L w v xs) : ∃ F, GT.enc w [v] xs F ∧ Own L w F := by
  obtain ⟨F, h1, h2⟩ := h.os
  exact ⟨F, ⟨v, rfl, h1⟩, h2⟩
end Sk

namespace Sk
open Go Go.Proofs Go.RowKit
set_option maxHeartbeats 800000
set_option maxRecDepth 100000
set_option linter.unusedVariables false
set_option linter.unusedSimpArgs false
theorem Mx.own {F G : List Nat} {L : Nat} {a b : World} (h : Mx F a b) (ho : Own L a G) : Own L b G := ⟨ho.1, fun x hx => ⟨(ho.2 x hx).1, h.2.2.2 x (ho.2 x hx).2⟩⟩
theorem mkT_ct_Setup (x : Setup) (k : Int) : (x.mkT k).ctT = x.ctT := GT.mkE_ct _ _
theorem mkT_idem_Setup (x : Setup) (k : Int) : (x.mkT k).mkT k = x.mkT k := GT.mkE_idem _ _
theorem mkT_ct_Board (x : Board) (k : Int) : (x.mkT k).ctT = x.ctT := GT.mkE_ct _ _
theorem mkT_idem_Board (x : Board) (k : Int) : (x.mkT k).mkT k = x.mkT k := GT.mkE_idem _ _
theorem mkT_ct_Machine (x : Machine) (k : Int) : (x.mkT k).ctT = x.ctT := by simp only [Machine.mkT, Machine.ctT, GT.mkE_ct]
theorem mkT_idem_Machine (x : Machine) (k : Int) : (x.mkT k).mkT k = x.mkT k := by simp only [Machine.mkT, GT.mkE_ct, GT.mkE_idem]
theorem mkT_ct_Watch (x : Watch) (k : Int) : (x.mkT k).ctT = x.ctT := by simp only [Watch.mkT, Watch.ctT, GT.mkE_ct, mkT_ct_Machine]
theorem mkT_idem_Watch (x : Watch) (k : Int) : (x.mkT k).mkT k = x.mkT k := by simp only [Watch.mkT, mkT_ct_Machine, mkT_idem_Machine, GT.mkE_idem]
end Sk

namespace Sk
open Go Go.Proofs Go.RowKit
set_option maxHeartbeats 4000000
set_option maxRecDepth 100000
set_option linter.unusedVariables false
set_option linter.unusedSimpArgs false
theorem M.openS_cases (ys : List Int) (key : Int) : (∃ s, M.sealed s key = ys ∧ M.openS ys key = (s, true)) ∨ M.openS ys key = (default, false) := by
  rcases List.eq_nil_or_concat ys with rfl | ⟨zs, z, rfl⟩
  · exact .inr (M.openS_nil key)
  · rw [List.concat_eq_append]
    cases hk : M.inn key 0 1048572
    · exact .inr (M.openS_key hk _)
    · rw [M.openS_eq hk]
      by_cases hm : (M.mix key zs == z) = true
      · rw [if_pos hm]
        rcases M.readS_cases zs with ⟨s, hs, hn, hr⟩ | hr
        · refine .inl ⟨s, ?_, hr⟩
          unfold M.sealed
          rw [hs, hk]
          simp only [Bool.and_self, if_true]
          rw [hn, beq_iff_eq.1 hm]
        · exact .inr hr
      · rw [if_neg hm]; exact .inr rfl
theorem lawOpenSetup (v : Value) (xs : List By) (w : World) (h : Rs w v xs) :
    Calls Try.prog 8 #[v] w fun e w' => e = .returned (.bool true) ∧ Ext w w' := by
  obtain ⟨a, c, rfl, hl⟩ := h.form
  have H := Lib.hid h
  clear h
  by_cases hx : xs.length ≤ 1048576
  · go_enter Try.func8, Try.ntmps8
    go_upto_region 4 with (go_at_call 30; refine (spec_DrawOpenSetup _ _ _ H.out).mono ?_; rintro e w1 ⟨v', ys, key, rfl, hp, hyl, hz1, hz2, he⟩; obtain ⟨p1, q1, rfl, hq1⟩ := hp.rs.form; have HL := Lib.hid hp.rs; have HE := Lib.hid he; clear hp he)
    obtain ⟨x, ok, hro⟩ : ∃ x ok, M.openS ys key = (x, ok) := ⟨_, _, rfl⟩
    go_upto_region 5 with (go_at_call 29; refine (impl_OpenSetup _ ys key _ HL.out).mono ?_; rintro e w2 ⟨v2, rfl, ho, he⟩; rw [hro] at ho ⊢; simp only at ho ⊢; obtain ⟨x0, y0, x1, y1, x2, y2, rfl, _⟩ := ho.rv.openSetup; have HX2 := Lib.hid ho.rv; have HE2 := Lib.hid he; clear ho he)
    refine abs_world (fun W2 => Ext w2 W2 ∧ Bk W2 w2.heap.size [.slice x0 x.Parts.length y0, .slice x1 x.Channels.length y1, .slice x2 x.Slots.length y2] 27) ⟨(Ext.refl _).alloc _, Bk.new _ _ _⟩ ?_
    rintro W2 ⟨e2, kB⟩
    replace HX2 := Lib.hid (HX2.out.ext e2)
    replace HE2 := Lib.hid (HE2.out.tr e2)
    have KB := Lib.hid kB
    have hB := kB.lt
    clear e2 kB
    go_upto_region 6 with (go_at_call 31; refine (spec_OpenSetup _ ys key _ (HL.out.ext HE2.out)).mono ?_; rintro e w3 ⟨v3, rfl, ho, he⟩; rw [hro] at ho ⊢; simp only at ho ⊢; obtain ⟨z0, u0, z1, u1, z2, u2, rfl, _⟩ := ho.openSetup; have HX3 := Lib.hid ho; have HE3 := Lib.hid he; clear ho he)
    refine abs_world (fun W3 => Ext w3 W3 ∧ Bk W3 w3.heap.size [.slice z0 x.Parts.length u0, .slice z1 x.Channels.length u1, .slice z2 x.Slots.length u2] 27) ⟨(Ext.refl _).alloc _, Bk.new _ _ _⟩ ?_
    rintro W3 ⟨e3, kC⟩
    replace HX3 := Lib.hid (HX3.out.ext e3)
    replace HE3 := Lib.hid (HE3.out.tr e3)
    have hC := kC.lt
    have KB3 := KB.out.ext HE3.out
    have b0 := KB3.cell (j := 0) rfl
    have b1 := KB3.cell (j := 1) rfl
    have b2 := KB3.cell (j := 2) rfl
    have hB3 := KB3.lt
    have c0 := kC.cell (j := 0) rfl
    have c1 := kC.cell (j := 1) rfl
    have c2 := kC.cell (j := 2) rfl
    replace HX2 := Lib.hid (HX2.out.ext HE3.out)
    replace HL := Lib.hid (HL.out.ext (HE2.out.tr HE3.out))
    have HS := Lib.hid (HE.out.tr (HE2.out.tr HE3.out))
    clear kC e3 HE2 HE3 HE KB hB H
    obtain ⟨N, hN⟩ : ∃ N, M.numbers x = N := ⟨_, rfl⟩
    replace KB3 := Lib.hid KB3
    have hok : (ok != ok) = false := by simp
    go_region_held3 (fun u => u.cell? ⟨w2.heap.size, 0, none⟩ = some (.slice x0 x.Parts.length y0) ∧ u.cell? ⟨w2.heap.size, 1, none⟩ = some (.slice x1 x.Channels.length y1) ∧ u.cell? ⟨w2.heap.size, 2, none⟩ = some (.slice x2 x.Slots.length y2) ∧ u.cell? ⟨w3.heap.size, 0, none⟩ = some (.slice z0 x.Parts.length u0) ∧ u.cell? ⟨w3.heap.size, 1, none⟩ = some (.slice z1 x.Channels.length u1) ∧ u.cell? ⟨w3.heap.size, 2, none⟩ = some (.slice z2 x.Slots.length u2))
      (first
        | go_keep
        | exact ⟨(cell_ext HE4.out hB3).trans b0, (cell_ext HE4.out hB3).trans b1, (cell_ext HE4.out hB3).trans b2, (cell_ext HE4.out hC).trans c0, (cell_ext HE4.out hC).trans c1, (cell_ext HE4.out hC).trans c2⟩)
      (first
        | (go_at_call 10; refine (impl_SetupNumbers _ x _ (HX2.out.ext (Ext.refl W3).drew)).mono ?_; rintro e w4 ⟨v4, rfl, ho, he⟩; rw [hN] at ho; have HO4 := Lib.hid ho.rs; have HE4 := Lib.hid ((Ext.refl W3).drew.tr he); clear ho he)
        | (go_at_call 12; refine (spec_SetupNumbers _ x _ (HX3.out.ext HE4.out)).mono ?_; rintro e w5 ⟨v5, rfl, ho, he⟩; rw [hN] at ho; have HO5 := Lib.hid ho.rs; replace HO4 := Lib.hid (HO4.out.ext he); replace HE4 := Lib.hid (HE4.out.tr he); clear ho he)
        | (go_at_call 11; refine (law_sameInts _ _ N N _ HO4.out HO5.out).mono ?_; rintro e w6 ⟨rfl, he⟩; rw [Eqb.t (rfl : N = N)]; replace HE4 := Lib.hid (HE4.out.tr he); clear he))
    have KB6 := KB3.out.ext HE4.out
    have f0 := KB6.cell (j := 0) rfl
    have f1 := KB6.cell (j := 1) rfl
    have f2 := KB6.cell (j := 2) rfl
    have hB6 := KB6.lt
    have HS6 := Lib.hid (HS.out.tr HE4.out)
    replace HX2 := Lib.hid (HX2.out.ext HE4.out)
    replace HL := Lib.hid (HL.out.ext HE4.out)
    replace KB6 := Lib.hid KB6
    clear HO4 HO5 HS HX3 b0 b1 b2 c0 c1 c2 KB3 hok HE4
    rcases M.openS_cases ys key with ⟨t, hn, hr⟩ | hr
    · obtain ⟨rfl, rfl⟩ : x = t ∧ ok = true := by rw [hro] at hr; cases hr; exact ⟨rfl, rfl⟩
      replace hn := Lib.hid hn
      clear hr hro
      go_wp2_with (first
        | (go_at_call 27; refine (impl_SealSetup _ x key _ HX2.out).mono ?_; rintro e w7 ⟨v7, rfl, ho, he⟩; rw [hn.out] at ho; have HO7 := Lib.hid ho.rs; obtain ⟨p7, q7, rfl, _⟩ := ho.rs.form; have HE7 := Lib.hid he; clear ho he)
        | (go_at_call 11; refine (law_sameInts _ _ ys ys _ HO7.out (HL.out.ext HE7.out)).mono ?_; rintro e w8 ⟨rfl, he⟩; rw [Eqb.t (rfl : ys = ys)]; have HE8 := Lib.hid (HE7.out.tr he); clear he))
      go_ret
      exact ⟨rfl, HS6.out.tr HE8.out⟩
    · obtain ⟨rfl, rfl⟩ : x = default ∧ ok = false := by rw [hro] at hr; cases hr; exact ⟨rfl, rfl⟩
      clear KB6 HX2
      go_wp2_with (go_at_call 13; refine (law_alive _).mono ?_; rintro e w6 ⟨rfl, he⟩; have HE6 := Lib.hid he; clear he)
      go_ret
      exact ⟨rfl, HS6.out.tr HE6.out⟩
  · have hx2 : 1048576 < xs.length := by omega
    clear hx
    go_enter Try.func8, Try.ntmps8
    go_wp2
    go_ret
    exact ⟨rfl, Ext.refl w⟩
end Sk

