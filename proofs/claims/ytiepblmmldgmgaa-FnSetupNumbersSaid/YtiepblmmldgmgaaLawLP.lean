/- Contracts of functions of the given program, and lemmas for them: each theorem states the condition under which it holds. -/
import Derived.Test.YtiepblmmldgmgaaChecked
import Derived.Deep.CutBlock
import Derived.Deep.CutRange
import Derived.Test.YtiepblmmldgmgaaDel
import Derived.Test.YtiepblmmldgmgaaBuild
import Derived.Test.YtiepblmmldgmgaaRead
import Derived.Test.YtiepblmmldgmgaaTypes
import Derived.Test.YtiepblmmldgmgaaApp
import Derived.Test.YtiepblmmldgmgaaScal
import Derived.Test.YtiepblmmldgmgaaRefc
import Derived.Test.YtiepblmmldgmgaaDrawSt
import Derived.Test.YtiepblmmldgmgaaDrawPt
import Derived.Test.YtiepblmmldgmgaaNumsS
import Derived.Test.YtiepblmmldgmgaaReadI
import Derived.Test.YtiepblmmldgmgaaOb
import Derived.Test.YtiepblmmldgmgaaReadS
import Derived.Test.YtiepblmmldgmgaaHelp
namespace Sk
open Go Go.Proofs Go.RowKit
set_option maxHeartbeats 1600000
set_option maxRecDepth 100000
set_option linter.unusedVariables false
set_option linter.unusedSimpArgs false
theorem rs_one {w : World} {T : TypeId} {z : Int} (h : rng z) : Rs (w.alloc (.cells #[.int .i64 z] T)) (.slice (some ⟨w.heap.size, 0, none⟩) 1 1) [z] :=
  ⟨[w.heap.size], _, 1, rfl, by simp, by unfold maxLen; omega, .inr ⟨by simp, w.heap.size, 0, [], rfl, rfl, Row.lit1 (cs := [.int .i64 z]) ⟨rfl, h, rfl⟩⟩⟩
theorem Rs.row {α : Type} [GT α] [Fl α] {w : World} {a : Option Addr} {n c : Nat} {xs : List α} (h : Rs w (.slice a n c) xs) (hx : 0 < xs.length) : ∃ g o, a = some ⟨g, o, none⟩ ∧ n = xs.length ∧ Row w g o xs [] := by
  obtain ⟨F, a', c', he, hl, hc, hr⟩ := h
  cases he
  rcases hr with ⟨rfl, _⟩ | ⟨_, b, o, F', rfl, rfl, hr⟩
  · cases hx
  · have := hr.fl
    subst this
    exact ⟨b, o, rfl, rfl, hr⟩
theorem Os.own1 {α : Type} [GT α] [Fl α] {e : TypeId} {L : Nat} {w : World} {v : Value} {xs : List α} (h : Oo e L w v xs) : ∃ F, GT.enc w [v] xs F ∧ Own L w F := by
  obtain ⟨F, h1, h2⟩ := h.os
  exact ⟨F, ⟨v, rfl, h1⟩, h2⟩
end Sk

namespace Sk
open Go Go.Proofs Go.RowKit
set_option maxHeartbeats 1600000
set_option maxRecDepth 100000
set_option linter.unusedVariables false
set_option linter.unusedSimpArgs false
/-- Numbers are read to where they end. -/
theorem M.iReadR {s : Setup} (h : M.setv s = true) (rest : List Int) : M.iAll (M.nums s ++ rest, false) = s ∧ M.iEnd (M.nums s ++ rest, false) = (rest, false) := by
  have h5 := M.setv_parts h
  have h8 := M.setv_chans h
  have h12 := M.setv_slots h
  have i5 : M.inn (s.Parts.length : Int) 0 5 = true := M.inn_len (by omega)
  have i8 : M.inn (s.Channels.length : Int) 0 8 = true := M.inn_len (by omega)
  have i12 : M.inn (s.Slots.length : Int) 0 12 = true := M.inn_len (by omega)
  have hn : M.nums s ++ rest = (s.Parts.length : Int) :: (s.Parts.flatMap M.pn ++ ((s.Channels.length : Int) :: (s.Channels.flatMap M.cn ++ ((s.Slots.length : Int) :: (s.Slots.flatMap M.sn ++ rest))))) := by simp [M.nums]
  have hP := M.iter_all (f := M.iP1) (g := M.pn) (ok := fun x => x.Windows.length ≤ 12) (fun x r hx => M.iP1_ok x r hx) ((s.Channels.length : Int) :: (s.Channels.flatMap M.cn ++ ((s.Slots.length : Int) :: (s.Slots.flatMap M.sn ++ rest)))) s.Parts
    (fun x hx => by obtain ⟨k, hk⟩ := List.getElem?_of_mem hx; exact M.setv_win h hk)
  have hC := M.iter_all (f := M.iC1) (g := M.cn) (ok := fun _ => True) (fun x r _ => M.iC1_ok x r) ((s.Slots.length : Int) :: (s.Slots.flatMap M.sn ++ rest)) s.Channels (fun _ _ => trivial)
  have hS := M.iter_all (f := M.iS1) (g := M.sn) (ok := fun x => -1 ≤ x.Who) (fun x r hx => M.iS1_ok x r hx) rest s.Slots (fun x hx => (M.setv_who h hx).1)
  rw [hn]
  simp only [M.iAll, M.iEnd, M.iPs, M.iCs, M.iSs, M.mx_cons _ _ i5, M.ms_cons _ _ i5, Int.toNat_natCast, hP, M.mx_cons _ _ i8, M.ms_cons _ _ i8, hC, M.mx_cons _ _ i12, M.ms_cons _ _ i12, hS]
  exact ⟨trivial, trivial⟩
theorem M.nums_more {s t : Setup} (hs : M.setv s = true) (ht : M.setv t = true) {ys : List Int} (h : M.nums t = M.nums s ++ ys) : ys = [] := by
  have h1 := (M.iReadR hs ys).2
  have h2 := (M.iReadR ht []).2
  rw [List.append_nil, h, h1] at h2
  exact congrArg Prod.fst h2
theorem M.readS_more {s : Setup} (h : M.setv s = true) {ys : List Int} (hy : ys ≠ []) : M.readS (M.nums s ++ ys) = (default, false) :=
  M.readS_none fun t ht e => hy (M.nums_more h ht e)
theorem M.nums_pos (s : Setup) : 3 ≤ (M.nums s).length := by
  simp only [M.nums, List.length_append, List.length_cons, List.length_nil]; omega
theorem M.numbers_cases (s : Setup) : (M.setv s = true ∧ M.numbers s = M.nums s) ∨ (M.setv s = false ∧ M.numbers s = []) := by
  unfold M.numbers
  cases h : M.setv s
  · exact .inr ⟨rfl, rfl⟩
  · exact .inl ⟨rfl, rfl⟩
theorem Os.copy {α : Type} [GT α] [Fl α] {w : World} {a : Option Addr} {n c : Nat} {xs : List α} (h : Rs w (.slice a n c) xs) (hx : 0 < xs.length) : ∃ g o, a = some ⟨g, o, none⟩ ∧ n = xs.length ∧ g < w.heap.size ∧ Hid (Row w g o xs []) := by
  obtain ⟨g, o, h1, h2, h3⟩ := h.row hx
  exact ⟨g, o, h1, h2, h3.lt (List.length_pos_iff.1 hx), h3⟩
theorem lawSetupNumbers (v : Value) (xs : List By) (w : World) (h : Rs w v xs) :
    Calls Try.prog 3 #[v] w fun e w' => e = .returned (.bool true) ∧ Ext w w' := by
  obtain ⟨a, c, rfl, hl⟩ := h.form
  have H := Lib.hid h
  clear h
  by_cases hx : xs.length ≤ 1048576
  · go_enter Try.func3, Try.ntmps3
    go_upto_region 4 with (go_at_call 9; refine (spec_DrawSetupNumbers _ _ _ H.out).mono ?_; rintro e w1 ⟨v', s, rfl, hp, hds, he⟩; obtain ⟨a0, c0, a1, c1, a2, c2, rfl, hl0, hl1, hl2⟩ := hp.openS; have HP := Lib.hid hp.rv; have HE := Lib.hid he; clear hp he hds)
    refine abs_world (fun W1 => Ext w1 W1 ∧ Bk W1 w1.heap.size [.slice a0 s.Parts.length c0, .slice a1 s.Channels.length c1, .slice a2 s.Slots.length c2] 27) ⟨(Ext.refl _).alloc _, Bk.new _ _ _⟩ ?_
    rintro W1 ⟨e1, kA⟩
    have HE1 := Lib.hid (HE.out.tr e1)
    have KA := Lib.hid kA
    have hA := kA.lt
    have d0 := kA.cell (j := 0) rfl
    have d1 := kA.cell (j := 1) rfl
    have d2 := kA.cell (j := 2) rfl
    replace HP := Lib.hid (HP.out.ext e1)
    clear e1 kA HE
    obtain ⟨L, hL⟩ : ∃ L, M.numbers s = L := ⟨_, rfl⟩
    go_upto_region 5 with (go_at_call 10; refine (impl_SetupNumbers _ s _ HP.out).mono ?_; rintro e w2 ⟨v2, rfl, ho, he⟩; rw [hL] at ho; obtain ⟨p2, q2, rfl, hq2⟩ := ho.rs.form; have HO := Lib.hid ho.rs; have HE2 := Lib.hid he; have KA2 := KA.out.ext he; have b0 := KA2.cell (j := 0) rfl; have b1 := KA2.cell (j := 1) rfl; have b2 := KA2.cell (j := 2) rfl; have hA2 := KA2.lt; clear ho he)
    go_upto_if 20 with (first
      | (go_at_call 12; refine (spec_SetupNumbers _ s _ (HP.out.ext HE2.out)).mono ?_; rintro e w3 ⟨v3, rfl, ho, he⟩; rw [hL] at ho; have HO3 := Lib.hid ho.rs; obtain ⟨p3, q3, rfl, hq3⟩ := ho.form; have HE3 := Lib.hid he; clear ho he)
      | (go_at_call 11; refine (law_sameInts _ _ L L _ (HO.out.ext HE3.out) HO3.out).mono ?_; rintro e w4 ⟨rfl, he⟩; have HE4 := Lib.hid he; clear he))
    rw [Eqb.t (rfl : L = L)]
    simp only [Bool.not_true]
    have HS := Lib.hid ((HE1.out.tr HE2.out).tr (HE3.out.tr HE4.out))
    have HX := Lib.hid (HE3.out.tr HE4.out)
    have KA4 := KA2.ext HX.out
    have hA4 := KA4.lt
    replace HO := Lib.hid (HO.out.ext HX.out)
    clear b0 b1 b2 d0 d1 d2 KA KA2 HE1 HE2 HE3 HE4 HX HO3 hA hA2 H HP
    rcases M.numbers_cases s with ⟨g, hn⟩ | ⟨g, hn⟩
    · obtain rfl : L = M.nums s := hL.symm.trans hn
      have hpos := M.nums_pos s
      have hle := M.nums_len g
      have hrd := M.readS_of g
      have hrm := M.readS_more g (ys := [0]) (by simp)
      generalize M.nums s = L at *
      have hzi : ((L.length : Int) == 0) = false := beq_eq_false_iff_ne.2 (by omega)
      have HRD := Lib.hid hrd
      have HRM := Lib.hid hrm
      have HLN := Lib.hid hL
      clear hrd hrm hL hn
      obtain ⟨g4, o4, rfl, _, hg4, HROW⟩ := Os.copy HO.out (by omega)
      go_upto_region 10 with (go_at_call 14; refine (impl_ReadSetup _ L _ HO.out).mono ?_; rintro e w5 ⟨v5, rfl, ho, he⟩; rw [HRD.out] at ho ⊢; obtain ⟨x0, y0, x1, y1, x2, y2, rfl, _⟩ := ho.rv.openSetup; have HX5 := Lib.hid ho.rv; have HE5 := Lib.hid he; clear ho he)
      refine abs_world (fun W5 => Ext w5 W5 ∧ Bk W5 w5.heap.size [.slice x0 s.Parts.length y0, .slice x1 s.Channels.length y1, .slice x2 s.Slots.length y2] 27) ⟨(Ext.refl _).alloc _, Bk.new _ _ _⟩ ?_
      rintro W5 ⟨e5, kB⟩
      have HE6 := Lib.hid (HE5.out.tr e5)
      have KB := Lib.hid kB
      replace HX5 := Lib.hid (HX5.out.ext e5)
      clear e5 kB HE5
      go_upto_region 11 with (first
        | (at_builtin; first
          | (refine wpl_appO (u := W5.alloc _) (α := Int) rfl _ _ 29 rfl 3 Try.underlying29 elInt (v := .slice (some ⟨W5.heap.size, 0, none⟩) 0 0) (ys := L) rfl (Oo.lit0 (α := Int) 3 W5) (Ext.refl _) ((Ext.refl _).alloc _).sz rfl rfl (HROW.out.keep ((HE6.out.alloc _).block _ hg4) (fun k hk => by cases hk)) (by omega) (Own.nil _ _) (by simp; omega) ?_; intro v6 w6 hO6 hg6; have HO6 := Lib.hid (show Oo 3 W5.heap.size w6 v6 L from hO6); have HE7 := Lib.hid (Ext.grown ((Ext.refl W5).alloc _) hg6 (fun k hk => by simp only [Value.ownBlock, Option.some.injEq] at hk; omega)); obtain ⟨p6, n6, q6, rfl⟩ := hO6.sh; clear hO6 hg6)
          | (refine wpl_appO (u := w6) (α := Int) rfl _ _ 29 rfl 3 Try.underlying29 elInt (v := .slice p6 n6 q6) (ys := [0]) rfl HO6.out ((Ext.refl _).alloc _) HE7.out.sz rfl rfl (CI.row ⟨by simp, rng_of (by omega) (by omega), trivial⟩) (by simp) (Own.nil _ _) (by simp; omega) ?_; intro v7 w7 hO7 hg7; have HO7 := Lib.hid hO7.rs; have HE8 := Lib.hid (Ext.grown (HE7.out.alloc _) hg7 HO6.out.own); obtain ⟨p7, n7, q7, rfl⟩ := hO7.sh; clear hO7 hg7))
        | (go_at_call 14; refine (impl_ReadSetup _ (L ++ [0]) _ HO7.out).mono ?_; rintro e w8 ⟨v8, rfl, ho, he⟩; rw [HRM.out] at ho ⊢; obtain ⟨z0, u0, z1, u1, z2, u2, rfl, _⟩ := ho.rv.openSetup; have HE9 := Lib.hid (HE8.out.tr he); clear ho he))
      refine abs_world (fun W9 => Ext W5 W9) (HE9.out.alloc _) ?_
      intro W9 e9
      have KA9 := KA4.ext (HE6.out.tr e9)
      have KB9 := KB.out.ext e9
      have f0 := KA9.cell (j := 0) rfl
      have f1 := KA9.cell (j := 1) rfl
      have f2 := KA9.cell (j := 2) rfl
      have k0 := KB9.cell (j := 0) rfl
      have k1 := KB9.cell (j := 1) rfl
      have k2 := KB9.cell (j := 2) rfl
      have HE10 := Lib.hid (HE6.out.tr e9)
      have HX9 := Lib.hid (HX5.out.ext e9)
      clear e9 HE6 HE7 HE8 HE9 HO6 HO7
      go_wp2_with (first
        | (go_at_call 10; refine (impl_SetupNumbers _ s _ HX9.out).mono ?_; rintro e w10 ⟨v10, rfl, ho, he⟩; rw [HLN.out] at ho; obtain ⟨p10, q10, rfl, hq10⟩ := ho.rs.form; have HO10 := Lib.hid ho.rs; have HE11 := Lib.hid (HE10.out.tr he); have HE99 := Lib.hid he; clear ho he)
        | (go_at_call 11; refine (law_sameInts _ _ L L _ HO10.out (HO.out.ext HE11.out)).mono ?_; rintro e w11 ⟨rfl, he⟩; rw [Eqb.t (rfl : L = L)]; have HE12 := Lib.hid (HE11.out.tr he); have KA9 := KA4.ext HE12.out; have KB9 := KB9.ext (HE99.out.tr he); have f0 := KA9.cell (j := 0) rfl; have f1 := KA9.cell (j := 1) rfl; have f2 := KA9.cell (j := 2) rfl; have k0 := KB9.cell (j := 0) rfl; have k1 := KB9.cell (j := 1) rfl; have k2 := KB9.cell (j := 2) rfl; clear he))
      go_ret
      exact ⟨rfl, HS.out.tr HE12.out⟩
    · obtain rfl : L = [] := hL.symm.trans hn
      go_wp2_with (go_at_call 13; refine (law_alive _).mono ?_; rintro e w6 ⟨rfl, he⟩; have HE6 := Lib.hid he; clear he)
      go_ret
      exact ⟨rfl, HS.out.tr HE6.out⟩
  · have hx2 : 1048576 < xs.length := by omega
    clear hx
    go_enter Try.func3, Try.ntmps3
    go_wp2
    go_ret
    exact ⟨rfl, Ext.refl w⟩
end Sk

namespace Sk
open Go Go.Proofs Go.RowKit
set_option maxHeartbeats 800000
set_option maxRecDepth 100000
set_option linter.unusedVariables false
set_option linter.unusedSimpArgs false
theorem Mx.own {F G : List Nat} {L : Nat} {a b : World} (h : Mx F a b) (ho : Own L a G) : Own L b G := ⟨ho.1, fun x hx => ⟨(ho.2 x hx).1, h.2.2.2 x (ho.2 x hx).2⟩⟩
theorem mkT_ct_Setup (x : Setup) (k : Int) : (x.mkT k).ctT = x.ctT := GT.mkE_ct _ _
theorem mkT_idem_Setup (x : Setup) (k : Int) : (x.mkT k).mkT k = x.mkT k := GT.mkE_idem _ _
theorem mkT_ct_Board (x : Board) (k : Int) : (x.mkT k).ctT = x.ctT := GT.mkE_ct _ _
theorem mkT_idem_Board (x : Board) (k : Int) : (x.mkT k).mkT k = x.mkT k := GT.mkE_idem _ _
theorem mkT_ct_Machine (x : Machine) (k : Int) : (x.mkT k).ctT = x.ctT := by simp only [Machine.mkT, Machine.ctT, GT.mkE_ct]
theorem mkT_idem_Machine (x : Machine) (k : Int) : (x.mkT k).mkT k = x.mkT k := by simp only [Machine.mkT, GT.mkE_ct, GT.mkE_idem]
theorem mkT_ct_Watch (x : Watch) (k : Int) : (x.mkT k).ctT = x.ctT := by simp only [Watch.mkT, Watch.ctT, GT.mkE_ct, mkT_ct_Machine]
theorem mkT_idem_Watch (x : Watch) (k : Int) : (x.mkT k).mkT k = x.mkT k := by simp only [Watch.mkT, mkT_ct_Machine, mkT_idem_Machine, GT.mkE_idem]
end Sk

