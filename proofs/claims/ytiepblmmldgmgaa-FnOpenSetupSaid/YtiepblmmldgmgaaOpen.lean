/- Contracts of functions of the given program, and lemmas for them: each theorem states the condition under which it holds. -/
import Derived.Test.YtiepblmmldgmgaaChecked
import Derived.Deep.CutBlock
import Derived.Deep.CutRange
import Derived.Test.YtiepblmmldgmgaaSeal
namespace Sk
open Go Go.Proofs Go.RowKit
set_option maxHeartbeats 1600000
set_option maxRecDepth 100000
set_option linter.unusedVariables false
set_option linter.unusedSimpArgs false
theorem Rs.init {α : Type} [GT α] {w : World} {a : Option Addr} {n c : Nat} {xs : List α} {y : α} (h : Rs w (.slice a n c) (xs ++ [y])) : Rs w (.slice a xs.length c) xs := by
  obtain ⟨F, a', c', he, hl, hc, hr⟩ := h
  cases he
  rw [List.length_append, List.length_singleton] at hl
  rcases hr with ⟨h, _⟩ | ⟨_, b, o, F', rfl, rfl, hr⟩
  · simp at h
  · obtain ⟨F1, F2, rfl, h1, _⟩ := hr.split
    by_cases hx : xs = []
    · subst hx; exact ⟨[], _, c, rfl, by simp, hc, .inl ⟨rfl, rfl⟩⟩
    · exact ⟨b :: F1, _, c, rfl, by omega, hc, .inr ⟨hx, b, o, F1, rfl, rfl, h1⟩⟩
noncomputable def M.openS (xs : List Int) (key : Int) : Setup × Bool :=
  if M.inn key 0 1048572 && (!xs.isEmpty && (M.mix key xs.dropLast == xs.getLastD 0)) then M.readS xs.dropLast else (default, false)
theorem M.openS_nil (key : Int) : M.openS [] key = (default, false) := by unfold M.openS; rw [if_neg (by simp)]
theorem M.openS_key {key : Int} (h : M.inn key 0 1048572 = false) (xs : List Int) : M.openS xs key = (default, false) := by unfold M.openS; rw [if_neg (by simp [h])]
theorem M.openS_eq {key : Int} (h : M.inn key 0 1048572 = true) (ys : List Int) (y : Int) : M.openS (ys ++ [y]) key = if (M.mix key ys == y) = true then M.readS ys else (default, false) := by
  unfold M.openS
  have : (ys ++ [y]).getLastD 0 = y := by simp [List.getLastD_eq_getLast?]
  rw [this]
  simp [h]
theorem M.readS_cases (ys : List Int) : (∃ s, M.setv s = true ∧ M.nums s = ys ∧ M.readS ys = (s, true)) ∨ M.readS ys = (default, false) := by
  by_cases h : ∃ s, M.setv s = true ∧ M.nums s = ys
  · obtain ⟨s, hs, rfl⟩ := h
    exact .inl ⟨s, hs, rfl, M.readS_of hs⟩
  · exact .inr (M.readS_none (fun s hs e => h ⟨s, hs, e⟩))
theorem impl_OpenSetup (v : Value) (xs : List Int) (key : Int) (w : World) (h : Rs w v xs) :
    Calls Try.prog 29 #[v, .int .i64 key] w fun e w' => ∃ v', e = .returned (.tuple #[v', .bool (M.openS xs key).2]) ∧ Ov w.heap.size w' v' (M.openS xs key).1 ∧ Ext w w' := by
  obtain ⟨a, c, rfl, hl⟩ := h.form
  have K0 := Bk.new w [.slice none 0 0, .slice none 0 0, .slice none 0 0] 27
  have k0 := K0.cell (j := 0) rfl
  have kf := K0.fz
  replace K0 := Lib.hid K0
  have E0 := Lib.hid ((Ext.refl w).alloc (.cells #[.slice none 0 0, .slice none 0 0, .slice none 0 0] 27))
  clear k0 kf
  rcases List.eq_nil_or_concat xs with rfl | ⟨ys, y, rfl⟩
  · have HM := Lib.hid (M.openS_nil key)
    clear h
    go_enter Try.func29, Try.ntmps29
    go_wp2
    refine bodyPost_ret (v := .tuple #[.agg #[.slice none 0 0, .slice none 0 0, .slice none 0 0], .bool false]) (by simp [results, Try.results29, go_sem]) rfl ⟨_, by rw [HM.out], by rw [HM.out]; exact ov_zero, ?_⟩
    exact E0.out
  · rw [List.concat_eq_append] at h hl ⊢
    have H := Lib.hid h
    have HY := Lib.hid h.init
    have hcap : ys.length + 1 ≤ c := by
      obtain ⟨_, _, _, e, h1, _⟩ := id h
      cases e; simpa using h1
    have hcap1 : ys.length ≤ c := by omega
    have hcap2 : (ys.length : Int) ≤ (c : Int) := by omega
    clear h
    have hlen : (ys ++ [y]).length = ys.length + 1 := by simp
    rw [hlen] at hl H ⊢
    clear hlen
    cases k : M.inn key 0 1048572
    · have HM := Lib.hid (M.openS_key k (ys ++ [y]))
      go_enter Try.func29, Try.ntmps29
      go_wp2_with (go_at_call 58; refine (impl_isKey _ _).mono ?_; rintro e w2 ⟨he, rfl⟩; rw [k] at he; subst he)
      refine bodyPost_ret (v := .tuple #[.agg #[.slice none 0 0, .slice none 0 0, .slice none 0 0], .bool false]) (by simp [results, Try.results29, go_sem]) rfl ⟨_, by rw [HM.out], by rw [HM.out]; exact ov_zero, ?_⟩
      exact E0.out
    · have hopen := M.openS_eq k ys y
      have hcases := M.readS_cases ys
      have HRS := impl_ReadSetup _ ys _ (HY.out.ext E0.out)
      obtain ⟨rs, rb, hrd⟩ : ∃ rs rb, M.readS ys = (rs, rb) := ⟨_, _, rfl⟩
      rw [hrd] at hopen hcases HRS
      replace HRS := Lib.hid HRS
      replace hopen := Lib.hid hopen
      replace hcases := Lib.hid hcases
      clear hrd
      go_enter Try.func29, Try.ntmps29
      go_upto_region 4 with (first
        | (go_at_call 58; refine (impl_isKey _ _).mono ?_; rintro e w2 ⟨he, rfl⟩; rw [k] at he; subst he)
        | (go_at_call 14; refine HRS.out.mono ?_; rintro e w3 ⟨v3, rfl, ho, he3⟩; have HO := Lib.hid ho; obtain ⟨p0, q0, p1, q1, p2, q2, rfl, _⟩ := ho.rv.openSetup; have E3 := Lib.hid he3; clear ho he3))
      refine abs_world (fun W => Ext w3 W ∧ Bk W w3.heap.size [.slice p0 rs.Parts.length q0, .slice p1 rs.Channels.length q1, .slice p2 rs.Slots.length q2] 27) ⟨(Ext.refl _).alloc _, Bk.new _ _ _⟩ ?_
      rintro W ⟨eW, KW⟩
      have j0 := KW.cell (j := 0) rfl
      have j1 := KW.cell (j := 1) rfl
      have j2 := KW.cell (j := 2) rfl
      have jl := KW.lt
      have EWA := Lib.hid (E3.out.tr eW)
      have EW := Lib.hid (E0.out.tr EWA.out)
      have KWh := Lib.hid KW
      have b0 := (K0.out.ext EWA.out).cell (j := 0) rfl
      have b1 := (K0.out.ext EWA.out).cell (j := 1) rfl
      have b2 := (K0.out.ext EWA.out).cell (j := 2) rfl
      have bf := (K0.out.ext EWA.out).fz
      have bl := (K0.out.ext EWA.out).lt
      have l3 : w.heap.size < w3.heap.size := by have := E3.out.sz; simp at this; omega
      have HOW : Hid (Ov (w.heap.size + 1) W (.agg #[.slice p0 rs.Parts.length q0, .slice p1 rs.Channels.length q1, .slice p2 rs.Slots.length q2]) rs) := Lib.hid (by
        obtain ⟨cs, F, h1, h2, h3⟩ := HO.out
        exact ⟨cs, F, h1, GT.ext h2 eW, by simpa using h3.ext eW⟩)
      have hne : w3.heap.size ≠ w.heap.size := by omega
      have hne2 : w.heap.size ≠ w3.heap.size := by omega
      clear eW HO KW
      cases rb
      · have HZ : Hid (M.openS (ys ++ [y]) key = (default, false)) := Lib.hid (by
          have h1 := hcases.out
          have h2 := hopen.out
          rcases h1 with ⟨s, _, _, h⟩ | h
          · cases h
          · rw [h2]; split
            · exact h
            · rfl)
        go_wp2
        refine bodyPost_ret (v := .tuple #[.agg #[.slice none 0 0, .slice none 0 0, .slice none 0 0], .bool false]) (by simp [results, Try.results29, go_sem, b0, b1, b2]) rfl ⟨_, by rw [HZ.out], by rw [HZ.out]; exact ov_zero, ?_⟩
        exact ((EW.out.set (by show w.heap.size ≤ w.heap.size; omega) _).set (by show w.heap.size ≤ w.heap.size; omega) _).set (by show w.heap.size ≤ w.heap.size; omega) _
      · obtain ⟨hs, hn⟩ : M.setv rs = true ∧ M.nums rs = ys := by
          rcases hcases.out with ⟨s, h1, h2, h⟩ | h
          · cases h; exact ⟨h1, h2⟩
          · cases h
        have hseal : Hid (M.sealed rs key = ys ++ [M.mix key ys]) := Lib.hid (by unfold M.sealed; rw [hs, k, hn]; rfl)
        replace hn := Lib.hid hn
        cases hq : Eqb (M.sealed rs key) (ys ++ [y])
        · have HZ : Hid (M.openS (ys ++ [y]) key = (default, false)) := Lib.hid (by
            rw [hopen.out, if_neg]
            intro h
            rw [beq_iff_eq] at h
            rw [Eqb.t (by rw [hseal.out, h])] at hq
            cases hq)
          go_upto_region 5 with (first
            | (go_at_call 27; refine (impl_SealSetup _ rs key _ HOW.out.rv).mono ?_; rintro e w4 ⟨v4, rfl, ho4, he4⟩; have HO4 := Lib.hid ho4.rs; obtain ⟨p4, q4, rfl, _⟩ := ho4.form; have E4 := Lib.hid he4; clear ho4 he4)
            | (go_at_call 40; refine (impl_Equal_int _ _ (M.sealed rs key) (ys ++ [y]) _ HO4.out (H.out.ext (EW.out.tr E4.out))).mono ?_; rintro e w5 ⟨he, he5⟩; rw [hq] at he; subst he; have E5 := Lib.hid (E4.out.tr he5); have y0 := (K0.out.ext (EWA.out.tr E5.out)).cell (j := 0) rfl; have y1 := (K0.out.ext (EWA.out.tr E5.out)).cell (j := 1) rfl; have y2 := (K0.out.ext (EWA.out.tr E5.out)).cell (j := 2) rfl; have yf := (K0.out.ext (EWA.out.tr E5.out)).fz; have yl := (K0.out.ext (EWA.out.tr E5.out)).lt; clear he5))
          go_wp2
          refine bodyPost_ret (v := .tuple #[.agg #[.slice none 0 0, .slice none 0 0, .slice none 0 0], .bool false]) (by simp [results, Try.results29, go_sem, y0, y1, y2]) rfl ⟨_, by rw [HZ.out], by rw [HZ.out]; exact ov_zero, ?_⟩
          exact (((EW.out.tr E5.out).set (by show w.heap.size ≤ w.heap.size; omega) _).set (by show w.heap.size ≤ w.heap.size; omega) _).set (by show w.heap.size ≤ w.heap.size; omega) _
        · have HZ : Hid (M.openS (ys ++ [y]) key = (rs, true)) := Lib.hid (by
            rw [hopen.out, if_pos]
            have := Eqb.iff.1 hq
            rw [hseal.out] at this
            simpa using this)
          go_upto_region 6 with (first
            | (go_at_call 27; refine (impl_SealSetup _ rs key _ HOW.out.rv).mono ?_; rintro e w4 ⟨v4, rfl, ho4, he4⟩; have HO4 := Lib.hid ho4.rs; obtain ⟨p4, q4, rfl, _⟩ := ho4.form; have E4 := Lib.hid he4; clear ho4 he4)
            | (go_at_call 40; refine (impl_Equal_int _ _ (M.sealed rs key) (ys ++ [y]) _ HO4.out (H.out.ext (EW.out.tr E4.out))).mono ?_; rintro e w5 ⟨he, he5⟩; rw [hq] at he; subst he; have E5 := Lib.hid (E4.out.tr he5); have y0 := (K0.out.ext (EWA.out.tr E5.out)).cell (j := 0) rfl; have y1 := (K0.out.ext (EWA.out.tr E5.out)).cell (j := 1) rfl; have y2 := (K0.out.ext (EWA.out.tr E5.out)).cell (j := 2) rfl; have yf := (K0.out.ext (EWA.out.tr E5.out)).fz; have yl := (K0.out.ext (EWA.out.tr E5.out)).lt; have z0 := (KWh.out.ext E5.out).cell (j := 0) rfl; have z1 := (KWh.out.ext E5.out).cell (j := 1) rfl; have z2 := (KWh.out.ext E5.out).cell (j := 2) rfl; clear he5))
          go_wp2
          refine bodyPost_ret (v := .tuple #[.agg #[.slice p0 rs.Parts.length q0, .slice p1 rs.Channels.length q1, .slice p2 rs.Slots.length q2], .bool true]) (by simp [results, Try.results29, go_sem, y0, y1, y2]) rfl ⟨_, by rw [HZ.out], ?_, ?_⟩
          · rw [HZ.out]
            obtain ⟨cs, F, h1, h2, h3⟩ := HOW.out
            have hk : ∀ k ∈ F, k ≠ w.heap.size := fun k hk => by have := (h3.2 k hk).1; omega
            refine ⟨cs, F, h1, GT.keep (GT.ext h2 E5.out) (fun k hm => ?_), ((((h3.mono (by omega)).ext E5.out).set _ _).set _ _).set _ _⟩
            rw [heap_set_ne (by show k ≠ w.heap.size; exact hk k hm), heap_set_ne (by show k ≠ w.heap.size; exact hk k hm), heap_set_ne (by show k ≠ w.heap.size; exact hk k hm)]
          · exact (((EW.out.tr E5.out).set (by show w.heap.size ≤ w.heap.size; omega) _).set (by show w.heap.size ≤ w.heap.size; omega) _).set (by show w.heap.size ≤ w.heap.size; omega) _
theorem spec_OpenSetup (v : Value) (xs : List Int) (key : Int) (w : World) (h : Rs w v xs) :
    Calls Try.prog 31 #[v, .int .i64 key] w fun e w' => ∃ v', e = .returned (.tuple #[v', .bool (M.openS xs key).2]) ∧ Rv w' v' (M.openS xs key).1 ∧ Ext w w' := by
  obtain ⟨a, c, rfl, hl⟩ := h.form
  rcases List.eq_nil_or_concat xs with rfl | ⟨ys, y, rfl⟩
  · have HM := Lib.hid (M.openS_nil key)
    clear h
    go_enter Try.func31, Try.ntmps31
    go_upto_region 2 with (fail)
    refine abs_world (fun W => Ext w W ∧ Bk W w.heap.size [.slice none 0 0, .slice none 0 0, .slice none 0 0] 27) ⟨(Ext.refl _).alloc _, Bk.new _ _ _⟩ ?_
    rintro W0 ⟨e0, KK⟩
    have b0 := KK.cell (j := 0) rfl
    have b1 := KK.cell (j := 1) rfl
    have b2 := KK.cell (j := 2) rfl
    have bf := KK.fz
    have bl := KK.lt
    have E0 := Lib.hid e0
    have K0 := Lib.hid KK
    clear e0 KK
    go_big_quiet (fail)
    go_wp2
    refine bodyPost_ret (v := .tuple #[.agg #[.slice none 0 0, .slice none 0 0, .slice none 0 0], .bool false]) (by simp [results, Try.results31, go_sem, b0, b1, b2]) rfl ⟨_, by rw [HM.out], by rw [HM.out]; exact (ov_zero (α := Setup) (L := 0)).rv, ?_⟩
    exact (((E0.out.drewN _).set (by show w.heap.size ≤ w.heap.size; omega) _).set (by show w.heap.size ≤ w.heap.size; omega) _).set (by show w.heap.size ≤ w.heap.size; omega) _
  · rw [List.concat_eq_append] at h hl ⊢
    have H := Lib.hid h
    have HY := Lib.hid h.init
    have hcap : ys.length + 1 ≤ c := by
      obtain ⟨_, _, _, e, h1, _⟩ := id h
      cases e; simpa using h1
    have hcap1 : ys.length ≤ c := by omega
    have hcap2 : (ys.length : Int) ≤ (c : Int) := by omega
    obtain ⟨b, o, y', rfl, hb, hy, hc, hyr⟩ := h.atInt ys.length (by simp)
    have : y' = y := by have := hy.out; simpa using this.symm
    subst this
    clear h hy
    have hlen : (ys ++ [y']).length = ys.length + 1 := by simp
    rw [hlen] at hl H ⊢
    clear hlen
    have hi1 : ys.length < ys.length + 1 := by omega
    have hg : decide ((ys.length : Int) < 0) = false := decide_eq_false (by omega)
    have hi2 : (ys.length : Int) < (ys.length : Int) + 1 := by omega
    cases k : M.inn key 0 1048572
    · have HM := Lib.hid (M.openS_key k (ys ++ [y']))
      go_enter Try.func31, Try.ntmps31
      go_upto_region 2 with (fail)
      refine abs_world (fun W => Ext w W ∧ Bk W w.heap.size [.slice none 0 0, .slice none 0 0, .slice none 0 0] 27) ⟨(Ext.refl _).alloc _, Bk.new _ _ _⟩ ?_
      rintro W0 ⟨e0, KK⟩
      have b0 := KK.cell (j := 0) rfl
      have b1 := KK.cell (j := 1) rfl
      have b2 := KK.cell (j := 2) rfl
      have bf := KK.fz
      have bl := KK.lt
      have E0 := Lib.hid e0
      have K0 := Lib.hid KK
      clear e0 KK
      go_big_quiet ((go_at_call 45; exact Calls.quiet_of_same (v := .bool false) ((spec_In _ _ _ _).mono fun _ _ h => ⟨h.1.trans (by rw [k]), h.2.symm⟩)))
      go_wp2
      refine bodyPost_ret (v := .tuple #[.agg #[.slice none 0 0, .slice none 0 0, .slice none 0 0], .bool false]) (by simp [results, Try.results31, go_sem, b0, b1, b2]) rfl ⟨_, by rw [HM.out], by rw [HM.out]; exact (ov_zero (α := Setup) (L := 0)).rv, ?_⟩
      exact (((E0.out.drewN _).set (by show w.heap.size ≤ w.heap.size; omega) _).set (by show w.heap.size ≤ w.heap.size; omega) _).set (by show w.heap.size ≤ w.heap.size; omega) _
    · obtain ⟨hk0, hk1⟩ := M.inn_iff.1 k
      have hopen := Lib.hid (M.openS_eq k ys y')
      go_enter Try.func31, Try.ntmps31
      go_upto_region 2 with (fail)
      refine abs_world (fun W => Ext w W ∧ Bk W w.heap.size [.slice none 0 0, .slice none 0 0, .slice none 0 0] 27) ⟨(Ext.refl _).alloc _, Bk.new _ _ _⟩ ?_
      rintro W0 ⟨e0, KK⟩
      have b0 := KK.cell (j := 0) rfl
      have b1 := KK.cell (j := 1) rfl
      have b2 := KK.cell (j := 2) rfl
      have bf := KK.fz
      have bl := KK.lt
      have E0 := Lib.hid e0
      have K0 := Lib.hid KK
      clear e0 KK
      have hc1 := (cell_ext E0.out hb).trans hc
      rcases beq_cases (M.mix key ys) y' with ⟨hx, q1, q2⟩ | ⟨hx, q1, q2⟩
      · have HZ : Hid (M.openS (ys ++ [y']) key = M.readS ys) := Lib.hid (by rw [hopen.out, if_pos q1])
        have hx2 := Lib.hid hx
        clear hx
        go_big_quiet (first | (go_at_call 45; exact Calls.quiet_of_same (v := .bool true) ((spec_In _ _ _ _).mono fun _ _ h => ⟨h.1.trans (by rw [k]), h.2.symm⟩)) | (go_at_call 61; exact Calls.quiet_of_same (v := .int .i64 (M.mix key ys)) ((spec_MixNumbers _ ys key _ ((HY.out.ext E0.out).ext ((Ext.refl _).drewN _)) hk0 hk1).mono fun _ _ h => ⟨h.1, h.2.symm⟩)))
        go_upto_region 4 with (fail)
        refine abs_world (fun W => Ext W0 W) ((Ext.refl _).drewN _) ?_
        intro W1 e1
        have E1 := Lib.hid (E0.out.tr e1)
        have E01 := Lib.hid e1
        clear e1
        have HRS := spec_ReadSetupB _ ys _ (HY.out.ext E1.out)
        obtain ⟨rs, rb, hrd⟩ : ∃ rs rb, M.readS ys = (rs, rb) := ⟨_, _, rfl⟩
        rw [hrd] at HRS
        replace HRS := Lib.hid HRS
        have HQ : Hid (M.openS (ys ++ [y']) key = (rs, rb)) := Lib.hid (by rw [HZ.out, hrd])
        clear hrd HZ
        go_wp2_with (go_at_call 16; refine HRS.out.mono ?_; rintro e w3 ⟨v3, rfl, ho, he3⟩; have HO := Lib.hid ho; obtain ⟨p0, q0, p1, q1, p2, q2, rfl, _⟩ := ho.rv.openSetup; have E3 := Lib.hid (E01.out.tr he3); have y0 := (K0.out.ext E3.out).cell (j := 0) rfl; have y1 := (K0.out.ext E3.out).cell (j := 1) rfl; have y2 := (K0.out.ext E3.out).cell (j := 2) rfl; have yf := (K0.out.ext E3.out).fz; have yl := (K0.out.ext E3.out).lt; clear ho he3)
        refine bodyPost_ret (v := .tuple #[.agg #[.slice p0 rs.Parts.length q0, .slice p1 rs.Channels.length q1, .slice p2 rs.Slots.length q2], .bool rb]) (by simp [results, Try.results31, go_sem, y0, y1, y2]) rfl ⟨_, by rw [HQ.out], ?_, ?_⟩
        · rw [HQ.out]
          obtain ⟨cs, F, h1, h2, h3⟩ := HO.out
          have hk : ∀ k ∈ F, k ≠ w.heap.size := fun k hk => by have := h3 k hk; have := E01.out.sz; have := E0.out.sz; have := K0.out.lt; omega
          refine ⟨cs, F, h1, GT.keep h2 (fun k hm => ?_)⟩
          rw [heap_set_ne (by show k ≠ w.heap.size; exact hk k hm), heap_set_ne (by show k ≠ w.heap.size; exact hk k hm), heap_set_ne (by show k ≠ w.heap.size; exact hk k hm)]
        · exact (((E0.out.tr E3.out).set (by show w.heap.size ≤ w.heap.size; omega) _).set (by show w.heap.size ≤ w.heap.size; omega) _).set (by show w.heap.size ≤ w.heap.size; omega) _
      · have HZ : Hid (M.openS (ys ++ [y']) key = (default, false)) := Lib.hid (by rw [hopen.out, if_neg (by simp [hx])])
        clear hx
        go_big_quiet (first | (go_at_call 45; exact Calls.quiet_of_same (v := .bool true) ((spec_In _ _ _ _).mono fun _ _ h => ⟨h.1.trans (by rw [k]), h.2.symm⟩)) | (go_at_call 61; exact Calls.quiet_of_same (v := .int .i64 (M.mix key ys)) ((spec_MixNumbers _ ys key _ ((HY.out.ext E0.out).ext ((Ext.refl _).drewN _)) hk0 hk1).mono fun _ _ h => ⟨h.1, h.2.symm⟩)))
        go_wp2
        refine bodyPost_ret (v := .tuple #[.agg #[.slice none 0 0, .slice none 0 0, .slice none 0 0], .bool false]) (by simp [results, Try.results31, go_sem, b0, b1, b2]) rfl ⟨_, by rw [HZ.out], by rw [HZ.out]; exact (ov_zero (α := Setup) (L := 0)).rv, ?_⟩
        exact (((E0.out.drewN _).set (by show w.heap.size ≤ w.heap.size; omega) _).set (by show w.heap.size ≤ w.heap.size; omega) _).set (by show w.heap.size ≤ w.heap.size; omega) _
end Sk

