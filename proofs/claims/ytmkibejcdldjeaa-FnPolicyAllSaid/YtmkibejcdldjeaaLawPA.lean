/- Contracts of functions of the given program, and lemmas for them: each theorem states the condition under which it holds. -/
import Derived.Test.YtmkibejcdldjeaaChecked
import Derived.Deep.CutBlock
import Derived.Deep.CutRange
import Derived.Test.YtmkibejcdldjeaaSame
import Derived.Test.YtmkibejcdldjeaaCutL
import Derived.Test.YtmkibejcdldjeaaDrawPt
import Derived.Test.YtmkibejcdldjeaaLeastS
import Derived.Test.YtmkibejcdldjeaaGaps
import Derived.Test.YtmkibejcdldjeaaDel
import Derived.Test.YtmkibejcdldjeaaCutS
import Derived.Test.YtmkibejcdldjeaaNumsS
import Derived.Test.YtmkibejcdldjeaaBuild
namespace Sk
open Go Go.Proofs Go.RowKit
set_option maxHeartbeats 8000000
set_option maxRecDepth 100000
set_option linter.unusedVariables false
set_option linter.unusedSimpArgs false
theorem lawPolicyAll (v : Value) (xs : List By) (w : World) (h : Rs w v xs) :
    Calls Try.prog 4 #[v] w fun e w' => e = .returned (.bool true) ∧ Ext w w' := by
  obtain ⟨a, c, rfl, hl⟩ := h.form
  have H := Lib.hid h
  clear h
  by_cases hx : xs.length ≤ 1048576
  rotate_left
  · have hx2 : 1048576 < xs.length := by omega
    clear hx
    go_enter Try.func4, Try.ntmps4
    go_wp2
    go_ret
    exact ⟨rfl, Ext.refl w⟩
  go_enter Try.func4, Try.ntmps4
  go_upto_region 4 with (go_at_call 7; refine (spec_DrawCutChannels _ _ _ H.out).mono ?_; rintro e w1 ⟨v', s, vq, q, rfl, hp, hds, ⟨hq, hdp⟩, he⟩; obtain ⟨a0, c0, a1, c1, a2, c2, rfl, hl0, hl1, hl2⟩ := hp.openS; obtain ⟨pq, cq, rfl, hlq⟩ := hq.rs.form; have HP := Lib.hid hp.rv; have HPQ := Lib.hid hq.rs; have HE := Lib.hid he; have HDS := Lib.hid hds; have HDP := Lib.hid hdp; clear hp he hds hq hdp)
  refine abs_world (fun W1 => Ext w1 W1 ∧ Bk W1 w1.heap.size [.slice a0 s.Parts.length c0, .slice a1 s.Channels.length c1, .slice a2 s.Slots.length c2] 27) ⟨(Ext.refl _).alloc _, Bk.new _ _ _⟩ ?_
  rintro W1 ⟨e1, kA⟩
  have HE1 := Lib.hid (HE.out.tr e1)
  have KA := Lib.hid kA
  have hA := kA.lt
  have d0 := kA.cell (j := 0) rfl
  have d1 := kA.cell (j := 1) rfl
  have d2 := kA.cell (j := 2) rfl
  replace HP := Lib.hid (HP.out.ext e1)
  replace HPQ := Lib.hid (HPQ.out.ext e1)
  clear e1 kA HE
  have htot : GT.tot s ≤ 1048576 := Nat.le_trans HDS.out.tot (by omega)
  have htq : GT.tot q ≤ 1048576 := Nat.le_trans HDP.out.tot (by omega)
  obtain ⟨x, hX⟩ : ∃ x, M.cut s q = x := ⟨_, rfl⟩
  go_upto_region 5 with (go_at_call 8; refine (impl_CutChannels _ _ s q _ HP.out HPQ.out htot).mono ?_; rintro e w2 ⟨v2, rfl, ho, he⟩; rw [hX] at ho; obtain ⟨x0, y0, x1, y1, x2, y2, rfl, _⟩ := ho.rv.openSetup; have HO := Lib.hid ho.rv; have HE2 := Lib.hid he; clear ho he)
  refine abs_world (fun W2 => Ext w2 W2 ∧ Bk W2 w2.heap.size [.slice x0 x.Parts.length y0, .slice x1 x.Channels.length y1, .slice x2 x.Slots.length y2] 27) ⟨(Ext.refl _).alloc _, Bk.new _ _ _⟩ ?_
  rintro W2 ⟨e2, kB⟩
  have KA2 := KA.out.ext (HE2.out.tr e2)
  have a20 := KA2.cell (j := 0) rfl
  have a21 := KA2.cell (j := 1) rfl
  have a22 := KA2.cell (j := 2) rfl
  have hA2 := KA2.lt
  have b20 := kB.cell (j := 0) rfl
  have b21 := kB.cell (j := 1) rfl
  have b22 := kB.cell (j := 2) rfl
  have hB2 := kB.lt
  replace HO := Lib.hid (HO.out.ext e2)
  replace HP := Lib.hid (HP.out.ext (HE2.out.tr e2))
  replace HPQ := Lib.hid (HPQ.out.ext (HE2.out.tr e2))
  have HS := Lib.hid (HE1.out.tr (HE2.out.tr e2))
  have KB := Lib.hid kB
  replace KA2 := Lib.hid KA2
  obtain ⟨N, hN⟩ : ∃ N, M.numbers x = N := ⟨_, rfl⟩
  clear e2 kB HE1 HE2 KA hA d0 d1 d2 H
  go_region_held3 (fun u => u.cell? ⟨w1.heap.size, 0, none⟩ = some (.slice a0 s.Parts.length c0) ∧ u.cell? ⟨w1.heap.size, 1, none⟩ = some (.slice a1 s.Channels.length c1) ∧ u.cell? ⟨w1.heap.size, 2, none⟩ = some (.slice a2 s.Slots.length c2) ∧ u.cell? ⟨w2.heap.size, 0, none⟩ = some (.slice x0 x.Parts.length y0) ∧ u.cell? ⟨w2.heap.size, 1, none⟩ = some (.slice x1 x.Channels.length y1) ∧ u.cell? ⟨w2.heap.size, 2, none⟩ = some (.slice x2 x.Slots.length y2))
    (first
      | go_keep
      | exact ⟨(cell_ext HE4.out hA2).trans a20, (cell_ext HE4.out hA2).trans a21, (cell_ext HE4.out hA2).trans a22, (cell_ext HE4.out hB2).trans b20, (cell_ext HE4.out hB2).trans b21, (cell_ext HE4.out hB2).trans b22⟩)
    (first
      | (go_at_call 9; refine (law_sameInts _ _ N N _ HO4.out HO5.out).mono ?_; rintro e w6 ⟨rfl, he⟩; rw [Eqb.t (rfl : N = N)]; replace HE4 := Lib.hid (HE4.out.tr he); clear he)
      | (go_at_call 11; refine (spec_SetupNumbers _ x _ HX5.out).mono ?_; rintro e w5 ⟨v5, rfl, ho, he⟩; rw [hN] at ho; have HO5 := Lib.hid ho.rs; replace HO4 := Lib.hid (HO4.out.ext he); replace HE4 := Lib.hid (HE4.out.tr he); clear ho he)
      | (go_at_call 12; refine (spec_CutChannels _ _ s q _ (HP.out.ext HE4.out) (HPQ.out.ext HE4.out) htot htq).mono ?_; rintro e w45 ⟨v45, rfl, ho, he⟩; rw [hX] at ho; have HX5 := Lib.hid ho; replace HO4 := Lib.hid (HO4.out.ext he); replace HE4 := Lib.hid (HE4.out.tr he); clear ho he)
      | (go_at_call 10; refine (impl_SetupNumbers _ x _ (HO.out.ext (Ext.refl W2).drew)).mono ?_; rintro e w4 ⟨v4, rfl, ho, he⟩; rw [hN] at ho; have HO4 := Lib.hid ho.rs; have HE4 := Lib.hid ((Ext.refl W2).drew.tr he); clear ho he))
  have HS6 := Lib.hid (HS.out.tr HE4.out)
  replace KA2 := Lib.hid (KA2.out.ext HE4.out)
  replace KB := Lib.hid (KB.out.ext HE4.out)
  have f0 := KA2.out.cell (j := 0) rfl
  have f1 := KA2.out.cell (j := 1) rfl
  have f2 := KA2.out.cell (j := 2) rfl
  have hA6 := KA2.out.lt
  replace HO := Lib.hid (HO.out.ext HE4.out)
  replace HP := Lib.hid (HP.out.ext HE4.out)
  replace HPQ := Lib.hid (HPQ.out.ext HE4.out)
  clear HO4 HO5 HX5 HS a20 a21 a22 b20 b21 b22 hA2 hB2 HE4
  cases g : M.setv s
  · go_wp2_with (first
      | (go_at_call 16; refine (spec_SetupValid _ s _ HP.out).mono ?_; rintro e w7 ⟨rfl, he⟩; rw [g]; have HE7 := Lib.hid he; clear he)
      | (go_at_call 13; refine (law_alive _).mono ?_; rintro e w8 ⟨rfl, he⟩; have HE8 := Lib.hid (HE7.out.tr he); clear he))
    go_ret
    exact ⟨rfl, HS6.out.tr HE8.out⟩
  have hp5 := M.setv_parts g
  replace g := Lib.hid g
  go_upto_block 0 with (go_at_call 16; refine (spec_SetupValid _ s _ HP.out).mono ?_; rintro e w7 ⟨rfl, he⟩; rw [g.out]; have HE7 := Lib.hid he; have k0 := (KA2.out.ext he).cell (j := 0) rfl; have hA7 := (KA2.out.ext he).lt; clear he)
  refine abs_world (fun W0 => Ext w7 W0 ∧ Oo (α := List Bool) 36 w7.heap.size W0 (.slice (some ⟨w7.heap.size, 0, none⟩) 0 0) []) ⟨(Ext.refl _).alloc _, Oo.lit0 _ _⟩ ?_
  rintro W0 ⟨e0, ho0⟩
  have HW0 := Lib.hid e0
  have HL0 := Lib.hid ho0
  clear e0 ho0 f0 f1 f2
  go_wp2_with fail
  go_loopw [6, 7] (fun v6 i wr => ∃ (k : Nat) (ao : Option Addr) (no co : Nat), k ≤ s.Parts.length ∧ i = .int .i64 k ∧ v6 = .slice ao no co ∧ Oo 36 w7.heap.size wr (.slice ao no co) (List.replicate k (List.replicate s.Parts.length true)) ∧ Ext w7 wr) (fun _ i _ => s.Parts.length - (intOf i).toNat)
  case atStart => exact ⟨0, _, _, _, Nat.zero_le _, rfl, rfl, HL0.out, HW0.out⟩
  case round =>
    clear HL0 HW0
    obtain ⟨k, ao, no, co, hk, rfl, rfl, ho, hq⟩ := hrel
    have f0 := (cell_ext hq hA7).trans k0
    have HQ := Lib.hid hq
    have HO6 := Lib.hid ho
    have hsz := hq.sz
    have hA8 := Nat.lt_of_lt_of_le hA7 hsz
    clear hq ho
    obtain ⟨wo, rfl⟩ : ∃ wo, wo = wr := ⟨_, rfl⟩
    by_cases hkt : k < s.Parts.length
    · go_upto_block 2 with (fail)
      refine abs_world (fun W1 => Ext wo W1 ∧ Oo (α := Bool) 4 wo.heap.size W1 (.slice (some ⟨wo.heap.size, 0, none⟩) 0 0) []) ⟨(Ext.refl _).alloc _, Oo.lit0 _ _⟩ ?_
      rintro W1 ⟨e1, ho1⟩
      have HW1 := Lib.hid e1
      have HL1 := Lib.hid ho1
      clear e1 ho1
      go_wp2_with fail
      go_loopw [8, 9] (fun v8 i wr => ∃ (j : Nat) (a8 : Option Addr) (n8 c8 : Nat), j ≤ s.Parts.length ∧ i = .int .i64 j ∧ v8 = .slice a8 n8 c8 ∧ Oo 4 wo.heap.size wr (.slice a8 n8 c8) (List.replicate j true) ∧ Ext wo wr) (fun _ i _ => s.Parts.length - (intOf i).toNat)
      case atStart => exact ⟨0, _, _, _, Nat.zero_le _, rfl, rfl, HL1.out, HW1.out⟩
      case round =>
        clear HL1 HW1
        obtain ⟨j, a8, n8, c8, hj, rfl, rfl, ho, hq⟩ := hrel
        have e0 := (cell_ext hq hA8).trans f0
        have HQ8 := Lib.hid hq
        have HO8 := Lib.hid ho
        have hsz8 := hq.sz
        clear hq ho
        obtain ⟨wi, rfl⟩ : ∃ wi, wi = wr := ⟨_, rfl⟩
        by_cases hjt : j < s.Parts.length
        · go_wp2_with (at_builtin; refine wpl_appO (u := wi) (α := Bool) rfl _ _ 36 rfl 4 Try.underlying36 elBool (v := .slice a8 n8 c8) (ys := [true]) rfl HO8.out ((Ext.refl _).alloc _) hsz8 rfl rfl (Row.lit1 (cs := [_]) ⟨rfl, rfl⟩) (by simp) (Own.nil _ _) (by simp; omega) ?_; intro v5 w5 hO5 hg5; have HO5 := Lib.hid hO5; have HE5 := Lib.hid (Ext.grown (HQ8.out.alloc _) hg5 HO8.out.own); obtain ⟨p5, n5, q5, rfl⟩ := hO5.sh; clear hO5 hg5)
          go_roundw
          case rel => exact ⟨j + 1, _, _, _, by omega, by go_num, rfl, by rw [List.replicate_succ']; exact HO5.out, HE5.out⟩
          case measure => simp [intOf]; omega
        · obtain rfl : j = s.Parts.length := by omega
          obtain ⟨F5, henc5, hown5⟩ := Os.own1 HO8.out
          go_wp2_with (at_builtin; refine wpl_appO (u := wo) (α := List Bool) rfl _ _ 28 rfl 36 Try.underlying28 elBoolS (v := .slice ao no co) (ys := [List.replicate s.Parts.length true]) rfl HO6.out (HQ8.out.alloc _) hsz rfl rfl (Row.lit1 (cs := [_]) henc5) (by simp) (hown5.ext ((Ext.refl _).alloc _)) (by simp; omega) ?_; intro v5 w5 hO5 hg5; have HO5 := Lib.hid hO5; have HE5 := Lib.hid (Ext.grown ((HQ.out.tr HQ8.out).alloc _) hg5 HO6.out.own); obtain ⟨p5, n5, q5, rfl⟩ := hO5.sh; clear hO5 hg5)
          go_roundw
          case rel => exact ⟨k + 1, _, _, _, by omega, by go_num, rfl, by rw [List.replicate_succ']; exact HO5.out, HE5.out⟩
          case measure => simp [intOf]; omega
    · obtain rfl : k = s.Parts.length := by omega
      have HAL := Lib.hid (show Rs wo (.slice ao no co) (M.allP s.Parts.length) from HO6.out.rs)
      have KA9 := KA2.out.ext (HE7.out.tr HQ.out)
      have KB9 := KB.out.ext (HE7.out.tr HQ.out)
      have a10 := KA9.cell (j := 0) rfl
      have a11 := KA9.cell (j := 1) rfl
      have a12 := KA9.cell (j := 2) rfl
      have b10 := KB9.cell (j := 0) rfl
      have b11 := KB9.cell (j := 1) rfl
      have b12 := KB9.cell (j := 2) rfl
      have hA10 := KA9.lt
      have hB10 := KB9.lt
      have htA := M.allP_tot (n := s.Parts.length) (by omega)
      have hgA := M.allP_gaps (s := s)
      have hcA := M.allP_cut g.out
      generalize M.allP s.Parts.length = al at *
      replace hgA := Lib.hid hgA
      replace hcA := Lib.hid hcA
      replace HP := Lib.hid (HP.out.ext (HE7.out.tr HQ.out))
      replace HPQ := Lib.hid (HPQ.out.ext (HE7.out.tr HQ.out))
      replace HO := Lib.hid (HO.out.ext (HE7.out.tr HQ.out))
      replace HS6 := Lib.hid (HS6.out.tr (HE7.out.tr HQ.out))
      obtain ⟨Ns, hNs⟩ : ∃ N, M.numbers s = N := ⟨_, rfl⟩
      replace hX := Lib.hid hX
      clear KA9 KB9 KA2 KB HO6 HQ HE7 f0 hA7 k0 hkt
      go_upto_region 19 with (fail)
      by_cases hsl : x.Slots = []
      · obtain ⟨m, hm⟩ : ∃ m, x.Slots.length = m := ⟨_, rfl⟩
        have hmz : ((m : Int) == 0) = true := by rw [← hm, hsl]; rfl
        rw [hm] at b12
        clear hsl hm
        refine wp_region_tab rfl 29 [(56, [56]), (57, [57]), (58, [58]), (59, [59]), (60, [60]), (61, [61]), (62, [62]), (63, [63]), (64, [64]), (65, [65]), (66, [66]), (67, [67]), (68, [68]), (69, [69]), (70, [70]), (71, [71]), (72, [72]), (73, [73]), (74, [74]), (75, [75]), (76, [76]), (77, [77]), (78, [78]), (79, [79]), (80, [80]), (81, [81]), (82, [82]), (83, [83]), (84, [84])]
          (fun i vs u F => match i, vs with
            | 0, [y] => y = .agg #[.slice a0 s.Parts.length c0, .slice a1 s.Channels.length c1, .slice a2 s.Slots.length c2]
            | 1, [y] => y = .slice ao no co
            | 2, [y] => ∃ p r, y = .slice p 0 r
            | 3, [y] => y = .int .i64 0
            | 4, [y] => y = .bool true
            | 5, [y] => y = .bool true
            | 6, [y] => y = .agg #[.slice a0 s.Parts.length c0, .slice a1 s.Channels.length c1, .slice a2 s.Slots.length c2]
            | 7, [y] => y = .slice ao no co
            | 8, [y] => Rv u y s
            | 9, [y] => Rs u y Ns
            | 10, [y] => y = .agg #[.slice a0 s.Parts.length c0, .slice a1 s.Channels.length c1, .slice a2 s.Slots.length c2]
            | 11, [y] => Rs u y Ns
            | 12, [y] => y = .bool true
            | 13, [y] => y = .bool true
            | 14, [y] => y = .bool true
            | 15, [y] => y = .pointer (some ⟨w2.heap.size, 2, none⟩)
            | 16, [y] => y = .slice x2 m y2
            | 17, [y] => y = .int .i64 m
            | 18, [y] => y = .bool true
            | 19, [y] => y = .bool true
            | 20, [y] => True
            | 21, [y] => True
            | 22, [y] => True
            | 23, [y] => True
            | 24, [y] => True
            | 25, [y] => True
            | 26, [y] => True
            | 27, [y] => y = .bool true
            | 28, [y] => y = .bool true
            | _, _ => False) (by decide +kernel) ?_ ?_
        · intro i hi oo hoo U u F hE hd hap
          have e0 := (cell_ext hE hA10).trans a10
          have e1 := (cell_ext hE hA10).trans a11
          have e2 := (cell_ext hE hA10).trans a12
          have e3 := (cell_ext hE hB10).trans b12
          rcases (by omega : i = 0 ∨ i = 1 ∨ i = 2 ∨ i = 3 ∨ i = 4 ∨ i = 5 ∨ i = 6 ∨ i = 7 ∨ i = 8 ∨ i = 9 ∨ i = 10 ∨ i = 11 ∨ i = 12 ∨ i = 13 ∨ i = 14 ∨ i = 15 ∨ i = 16 ∨ i = 17 ∨ i = 18 ∨ i = 19 ∨ i = 20 ∨ i = 21 ∨ i = 22 ∨ i = 23 ∨ i = 24 ∨ i = 25 ∨ i = 26 ∨ i = 27 ∨ i = 28) with rfl | rfl | rfl | rfl | rfl | rfl | rfl | rfl | rfl | rfl | rfl | rfl | rfl | rfl | rfl | rfl | rfl | rfl | rfl | rfl | rfl | rfl | rfl | rfl | rfl | rfl | rfl | rfl | rfl
          · cases hoo
            simp only [putAll_toArray, put_toArray, List.map_cons, List.map_nil, setL, List.set_cons_succ, List.set_cons_zero, Bd.d, List.getD_cons_succ, List.getD_cons_zero]
            intro K hK
            go_wp2
            exact hK _ [] _ (Ext.refl u) (fun _ _ => rfl) (Own.nil _ _)
          · cases hoo
            simp only [putAll_toArray, put_toArray, List.map_cons, List.map_nil, setL, List.set_cons_succ, List.set_cons_zero, Bd.d, List.getD_cons_succ, List.getD_cons_zero]
            intro K hK
            go_wp2
            exact hK _ [] _ (Ext.refl u) (fun _ _ => rfl) (Own.nil _ _)
          · cases hoo
            simp only [putAll_toArray, put_toArray, List.map_cons, List.map_nil, setL, List.set_cons_succ, List.set_cons_zero, Bd.d, List.getD_cons_succ, List.getD_cons_zero]
            have d0 := (hd 0 (by decide +kernel)).1
            have d1 := (hd 1 (by decide +kernel)).1
            simp only [Bd.u, List.getD_cons_succ, List.getD_cons_zero, List.map_cons, List.map_nil] at d0 d1
            try simp only [d0, d1]
            intro K hK
            go_wp2_with (go_at_call 15; refine (impl_PolicyGaps _ _ s al _ (HP.out.ext hE) (HAL.out.ext hE)).mono ?_; rintro e w11 ⟨v11, rfl, ho, he⟩; rw [hgA.out] at ho; obtain ⟨p11, q11, rfl, _⟩ := ho.rs.form)
            exact hK _ [] _ he (fun _ h => ⟨_, _, rfl⟩) (Own.nil _ _)
          · cases hoo
            simp only [putAll_toArray, put_toArray, List.map_cons, List.map_nil, setL, List.set_cons_succ, List.set_cons_zero, Bd.d, List.getD_cons_succ, List.getD_cons_zero]
            have d0 := (hd 0 (by decide +kernel)).1
            have d1 := (hd 1 (by decide +kernel)).1
            have d2 := (hd 2 (by decide +kernel)).1
            have o2 := (hd 2 (by decide +kernel)).2
            simp only [Bd.u, List.getD_cons_succ, List.getD_cons_zero, List.map_cons, List.map_nil] at d0 d1 d2
            try simp only [d0, d1]
            obtain ⟨p2, r2, d2⟩ := d2
            simp only [d2]
            intro K hK
            go_wp2
            exact hK _ [] _ (Ext.refl u) (fun _ h => rfl) (Own.nil _ _)
          · cases hoo
            simp only [putAll_toArray, put_toArray, List.map_cons, List.map_nil, setL, List.set_cons_succ, List.set_cons_zero, Bd.d, List.getD_cons_succ, List.getD_cons_zero]
            have d0 := (hd 0 (by decide +kernel)).1
            have d1 := (hd 1 (by decide +kernel)).1
            have d2 := (hd 2 (by decide +kernel)).1
            have d3 := (hd 3 (by decide +kernel)).1
            simp only [Bd.u, List.getD_cons_succ, List.getD_cons_zero, List.map_cons, List.map_nil] at d0 d1 d2 d3
            clear d2
            try simp only [d0, d1, d3]
            clear d0 d1 d3
            intro K hK
            go_wp2
            exact hK _ [] _ (Ext.refl u) (fun _ _ => rfl) (Own.nil _ _)
          · cases hoo
            simp only [putAll_toArray, put_toArray, List.map_cons, List.map_nil, setL, List.set_cons_succ, List.set_cons_zero, Bd.d, List.getD_cons_succ, List.getD_cons_zero]
            have d0 := (hd 0 (by decide +kernel)).1
            have d1 := (hd 1 (by decide +kernel)).1
            have d2 := (hd 2 (by decide +kernel)).1
            have d3 := (hd 3 (by decide +kernel)).1
            have d4 := (hd 4 (by decide +kernel)).1
            simp only [Bd.u, List.getD_cons_succ, List.getD_cons_zero, List.map_cons, List.map_nil] at d0 d1 d2 d3 d4
            clear d2
            try simp only [d0, d1, d3, d4]
            clear d0 d1 d3 d4
            intro K hK
            go_wp2
            exact hK _ [] _ (Ext.refl u) (fun _ _ => rfl) (Own.nil _ _)
          · cases hoo
            simp only [putAll_toArray, put_toArray, List.map_cons, List.map_nil, setL, List.set_cons_succ, List.set_cons_zero, Bd.d, List.getD_cons_succ, List.getD_cons_zero]
            have d0 := (hd 0 (by decide +kernel)).1
            have d1 := (hd 1 (by decide +kernel)).1
            have d2 := (hd 2 (by decide +kernel)).1
            have d3 := (hd 3 (by decide +kernel)).1
            have d4 := (hd 4 (by decide +kernel)).1
            have d5 := (hd 5 (by decide +kernel)).1
            simp only [Bd.u, List.getD_cons_succ, List.getD_cons_zero, List.map_cons, List.map_nil] at d0 d1 d2 d3 d4 d5
            clear d2
            try simp only [d0, d1, d3, d4, d5]
            clear d0 d1 d3 d4 d5
            intro K hK
            go_wp2
            exact hK _ [] _ (Ext.refl u) (fun _ _ => rfl) (Own.nil _ _)
          · cases hoo
            simp only [putAll_toArray, put_toArray, List.map_cons, List.map_nil, setL, List.set_cons_succ, List.set_cons_zero, Bd.d, List.getD_cons_succ, List.getD_cons_zero]
            have d0 := (hd 0 (by decide +kernel)).1
            have d1 := (hd 1 (by decide +kernel)).1
            have d2 := (hd 2 (by decide +kernel)).1
            have d3 := (hd 3 (by decide +kernel)).1
            have d4 := (hd 4 (by decide +kernel)).1
            have d5 := (hd 5 (by decide +kernel)).1
            simp only [Bd.u, List.getD_cons_succ, List.getD_cons_zero, List.map_cons, List.map_nil] at d0 d1 d2 d3 d4 d5
            clear d2
            try simp only [d0, d1, d3, d4, d5]
            clear d0 d1 d3 d4 d5
            intro K hK
            go_wp2
            exact hK _ [] _ (Ext.refl u) (fun _ _ => rfl) (Own.nil _ _)
          · cases hoo
            simp only [putAll_toArray, put_toArray, List.map_cons, List.map_nil, setL, List.set_cons_succ, List.set_cons_zero, Bd.d, List.getD_cons_succ, List.getD_cons_zero]
            have d0 := (hd 0 (by decide +kernel)).1
            have d1 := (hd 1 (by decide +kernel)).1
            have d2 := (hd 2 (by decide +kernel)).1
            have o2 := (hd 2 (by decide +kernel)).2
            have d3 := (hd 3 (by decide +kernel)).1
            have d4 := (hd 4 (by decide +kernel)).1
            have d5 := (hd 5 (by decide +kernel)).1
            have d6 := (hd 6 (by decide +kernel)).1
            have d7 := (hd 7 (by decide +kernel)).1
            simp only [Bd.u, List.getD_cons_succ, List.getD_cons_zero, List.map_cons, List.map_nil] at d0 d1 d2 d3 d4 d5 d6 d7
            try simp only [d0, d1, d3, d4, d5, d6, d7]
            intro K hK
            go_wp2_with (go_at_call 8; refine (impl_CutChannels _ _ s al _ (HP.out.ext hE) (HAL.out.ext hE) htot).mono ?_; rintro e w12 ⟨v12, rfl, ho, he⟩; rw [hcA.out] at ho)
            exact hK _ [] _ he (fun _ h => ho.rv.ext h) (Own.nil _ _)
          · cases hoo
            simp only [putAll_toArray, put_toArray, List.map_cons, List.map_nil, setL, List.set_cons_succ, List.set_cons_zero, Bd.d, List.getD_cons_succ, List.getD_cons_zero]
            have d0 := (hd 0 (by decide +kernel)).1
            have d1 := (hd 1 (by decide +kernel)).1
            have d2 := (hd 2 (by decide +kernel)).1
            have o2 := (hd 2 (by decide +kernel)).2
            have d3 := (hd 3 (by decide +kernel)).1
            have d4 := (hd 4 (by decide +kernel)).1
            have d5 := (hd 5 (by decide +kernel)).1
            have d6 := (hd 6 (by decide +kernel)).1
            have d7 := (hd 7 (by decide +kernel)).1
            have d8 := (hd 8 (by decide +kernel)).1
            have o8 := (hd 8 (by decide +kernel)).2
            simp only [Bd.u, List.getD_cons_succ, List.getD_cons_zero, List.map_cons, List.map_nil] at d0 d1 d2 d3 d4 d5 d6 d7 d8
            try simp only [d0, d1, d3, d4, d5, d6, d7]
            intro K hK
            go_wp2_with (go_at_call 10; refine (impl_SetupNumbers _ s _ d8).mono ?_; rintro e w13 ⟨v13, rfl, ho, he⟩; rw [hNs] at ho)
            exact hK _ [] _ he (fun _ h => ho.rs.ext h) (Own.nil _ _)
          · cases hoo
            simp only [putAll_toArray, put_toArray, List.map_cons, List.map_nil, setL, List.set_cons_succ, List.set_cons_zero, Bd.d, List.getD_cons_succ, List.getD_cons_zero]
            have d0 := (hd 0 (by decide +kernel)).1
            have d1 := (hd 1 (by decide +kernel)).1
            have d2 := (hd 2 (by decide +kernel)).1
            have d3 := (hd 3 (by decide +kernel)).1
            have d4 := (hd 4 (by decide +kernel)).1
            have d5 := (hd 5 (by decide +kernel)).1
            simp only [Bd.u, List.getD_cons_succ, List.getD_cons_zero, List.map_cons, List.map_nil] at d0 d1 d2 d3 d4 d5
            clear d2
            try simp only [d0, d1, d3, d4, d5]
            clear d0 d1 d3 d4 d5
            intro K hK
            go_wp2
            exact hK _ [] _ (Ext.refl u) (fun _ _ => rfl) (Own.nil _ _)
          · cases hoo
            simp only [putAll_toArray, put_toArray, List.map_cons, List.map_nil, setL, List.set_cons_succ, List.set_cons_zero, Bd.d, List.getD_cons_succ, List.getD_cons_zero]
            have d0 := (hd 0 (by decide +kernel)).1
            have d1 := (hd 1 (by decide +kernel)).1
            have d2 := (hd 2 (by decide +kernel)).1
            have o2 := (hd 2 (by decide +kernel)).2
            have d3 := (hd 3 (by decide +kernel)).1
            have d4 := (hd 4 (by decide +kernel)).1
            have d5 := (hd 5 (by decide +kernel)).1
            have d6 := (hd 6 (by decide +kernel)).1
            have d7 := (hd 7 (by decide +kernel)).1
            have d8 := (hd 8 (by decide +kernel)).1
            have o8 := (hd 8 (by decide +kernel)).2
            have d9 := (hd 9 (by decide +kernel)).1
            have o9 := (hd 9 (by decide +kernel)).2
            have d10 := (hd 10 (by decide +kernel)).1
            simp only [Bd.u, List.getD_cons_succ, List.getD_cons_zero, List.map_cons, List.map_nil] at d0 d1 d2 d3 d4 d5 d6 d7 d8 d9 d10
            try simp only [d0, d1, d3, d4, d5, d6, d7, d10]
            intro K hK
            go_wp2_with (go_at_call 10; refine (impl_SetupNumbers _ s _ (HP.out.ext hE)).mono ?_; rintro e w14 ⟨v14, rfl, ho, he⟩; rw [hNs] at ho)
            exact hK _ [] _ he (fun _ h => ho.rs.ext h) (Own.nil _ _)
          · cases hoo
            simp only [putAll_toArray, put_toArray, List.map_cons, List.map_nil, setL, List.set_cons_succ, List.set_cons_zero, Bd.d, List.getD_cons_succ, List.getD_cons_zero]
            have d0 := (hd 0 (by decide +kernel)).1
            have d1 := (hd 1 (by decide +kernel)).1
            have d2 := (hd 2 (by decide +kernel)).1
            have o2 := (hd 2 (by decide +kernel)).2
            have d3 := (hd 3 (by decide +kernel)).1
            have d4 := (hd 4 (by decide +kernel)).1
            have d5 := (hd 5 (by decide +kernel)).1
            have d6 := (hd 6 (by decide +kernel)).1
            have d7 := (hd 7 (by decide +kernel)).1
            have d8 := (hd 8 (by decide +kernel)).1
            have o8 := (hd 8 (by decide +kernel)).2
            have d9 := (hd 9 (by decide +kernel)).1
            have o9 := (hd 9 (by decide +kernel)).2
            have d10 := (hd 10 (by decide +kernel)).1
            have d11 := (hd 11 (by decide +kernel)).1
            have o11 := (hd 11 (by decide +kernel)).2
            simp only [Bd.u, List.getD_cons_succ, List.getD_cons_zero, List.map_cons, List.map_nil] at d0 d1 d2 d3 d4 d5 d6 d7 d8 d9 d10 d11
            try simp only [d0, d1, d3, d4, d5, d6, d7, d10]
            intro K hK
            go_wp2_with (go_at_call 9; refine (law_sameInts _ _ Ns Ns _ d9 d11).mono ?_; rintro e w15 ⟨rfl, he⟩; rw [Eqb.t (rfl : Ns = Ns)])
            exact hK _ [] _ he (fun _ h => rfl) (Own.nil _ _)
          · cases hoo
            simp only [putAll_toArray, put_toArray, List.map_cons, List.map_nil, setL, List.set_cons_succ, List.set_cons_zero, Bd.d, List.getD_cons_succ, List.getD_cons_zero]
            have d0 := (hd 0 (by decide +kernel)).1
            have d1 := (hd 1 (by decide +kernel)).1
            have d2 := (hd 2 (by decide +kernel)).1
            have d3 := (hd 3 (by decide +kernel)).1
            have d4 := (hd 4 (by decide +kernel)).1
            have d5 := (hd 5 (by decide +kernel)).1
            have d6 := (hd 6 (by decide +kernel)).1
            have d7 := (hd 7 (by decide +kernel)).1
            have d8 := (hd 8 (by decide +kernel)).1
            have d9 := (hd 9 (by decide +kernel)).1
            have d10 := (hd 10 (by decide +kernel)).1
            have d11 := (hd 11 (by decide +kernel)).1
            have d12 := (hd 12 (by decide +kernel)).1
            simp only [Bd.u, List.getD_cons_succ, List.getD_cons_zero, List.map_cons, List.map_nil] at d0 d1 d2 d3 d4 d5 d6 d7 d8 d9 d10 d11 d12
            clear d2 d8 d9 d11
            try simp only [d0, d1, d3, d4, d5, d6, d7, d10, d12]
            clear d0 d1 d3 d4 d5 d6 d7 d10 d12
            intro K hK
            go_wp2
            exact hK _ [] _ (Ext.refl u) (fun _ _ => rfl) (Own.nil _ _)
          · cases hoo
            simp only [putAll_toArray, put_toArray, List.map_cons, List.map_nil, setL, List.set_cons_succ, List.set_cons_zero, Bd.d, List.getD_cons_succ, List.getD_cons_zero]
            have d0 := (hd 0 (by decide +kernel)).1
            have d1 := (hd 1 (by decide +kernel)).1
            have d2 := (hd 2 (by decide +kernel)).1
            have d3 := (hd 3 (by decide +kernel)).1
            have d4 := (hd 4 (by decide +kernel)).1
            have d5 := (hd 5 (by decide +kernel)).1
            have d6 := (hd 6 (by decide +kernel)).1
            have d7 := (hd 7 (by decide +kernel)).1
            have d8 := (hd 8 (by decide +kernel)).1
            have d9 := (hd 9 (by decide +kernel)).1
            have d10 := (hd 10 (by decide +kernel)).1
            have d11 := (hd 11 (by decide +kernel)).1
            have d12 := (hd 12 (by decide +kernel)).1
            have d13 := (hd 13 (by decide +kernel)).1
            simp only [Bd.u, List.getD_cons_succ, List.getD_cons_zero, List.map_cons, List.map_nil] at d0 d1 d2 d3 d4 d5 d6 d7 d8 d9 d10 d11 d12 d13
            clear d2 d8 d9 d11
            try simp only [d0, d1, d3, d4, d5, d6, d7, d10, d12, d13]
            clear d0 d1 d3 d4 d5 d6 d7 d10 d12 d13
            intro K hK
            go_wp2
            exact hK _ [] _ (Ext.refl u) (fun _ _ => rfl) (Own.nil _ _)
          · cases hoo
            simp only [putAll_toArray, put_toArray, List.map_cons, List.map_nil, setL, List.set_cons_succ, List.set_cons_zero, Bd.d, List.getD_cons_succ, List.getD_cons_zero]
            have d0 := (hd 0 (by decide +kernel)).1
            have d1 := (hd 1 (by decide +kernel)).1
            have d2 := (hd 2 (by decide +kernel)).1
            have d3 := (hd 3 (by decide +kernel)).1
            have d4 := (hd 4 (by decide +kernel)).1
            have d5 := (hd 5 (by decide +kernel)).1
            have d6 := (hd 6 (by decide +kernel)).1
            have d7 := (hd 7 (by decide +kernel)).1
            have d8 := (hd 8 (by decide +kernel)).1
            have d9 := (hd 9 (by decide +kernel)).1
            have d10 := (hd 10 (by decide +kernel)).1
            have d11 := (hd 11 (by decide +kernel)).1
            have d12 := (hd 12 (by decide +kernel)).1
            have d13 := (hd 13 (by decide +kernel)).1
            have d14 := (hd 14 (by decide +kernel)).1
            simp only [Bd.u, List.getD_cons_succ, List.getD_cons_zero, List.map_cons, List.map_nil] at d0 d1 d2 d3 d4 d5 d6 d7 d8 d9 d10 d11 d12 d13 d14
            clear d2 d8 d9 d11
            try simp only [d0, d1, d3, d4, d5, d6, d7, d10, d12, d13, d14]
            clear d0 d1 d3 d4 d5 d6 d7 d10 d12 d13 d14
            intro K hK
            go_wp2
            exact hK _ [] _ (Ext.refl u) (fun _ _ => rfl) (Own.nil _ _)
          · cases hoo
            simp only [putAll_toArray, put_toArray, List.map_cons, List.map_nil, setL, List.set_cons_succ, List.set_cons_zero, Bd.d, List.getD_cons_succ, List.getD_cons_zero]
            have d0 := (hd 0 (by decide +kernel)).1
            have d1 := (hd 1 (by decide +kernel)).1
            have d2 := (hd 2 (by decide +kernel)).1
            have d3 := (hd 3 (by decide +kernel)).1
            have d4 := (hd 4 (by decide +kernel)).1
            have d5 := (hd 5 (by decide +kernel)).1
            have d6 := (hd 6 (by decide +kernel)).1
            have d7 := (hd 7 (by decide +kernel)).1
            have d8 := (hd 8 (by decide +kernel)).1
            have d9 := (hd 9 (by decide +kernel)).1
            have d10 := (hd 10 (by decide +kernel)).1
            have d11 := (hd 11 (by decide +kernel)).1
            have d12 := (hd 12 (by decide +kernel)).1
            have d13 := (hd 13 (by decide +kernel)).1
            have d14 := (hd 14 (by decide +kernel)).1
            have d15 := (hd 15 (by decide +kernel)).1
            simp only [Bd.u, List.getD_cons_succ, List.getD_cons_zero, List.map_cons, List.map_nil] at d0 d1 d2 d3 d4 d5 d6 d7 d8 d9 d10 d11 d12 d13 d14 d15
            clear d2 d8 d9 d11
            try simp only [d0, d1, d3, d4, d5, d6, d7, d10, d12, d13, d14, d15]
            clear d0 d1 d3 d4 d5 d6 d7 d10 d12 d13 d14 d15
            intro K hK
            go_wp2
            exact hK _ [] _ (Ext.refl u) (fun _ _ => rfl) (Own.nil _ _)
          · cases hoo
            simp only [putAll_toArray, put_toArray, List.map_cons, List.map_nil, setL, List.set_cons_succ, List.set_cons_zero, Bd.d, List.getD_cons_succ, List.getD_cons_zero]
            have d0 := (hd 0 (by decide +kernel)).1
            have d1 := (hd 1 (by decide +kernel)).1
            have d2 := (hd 2 (by decide +kernel)).1
            have d3 := (hd 3 (by decide +kernel)).1
            have d4 := (hd 4 (by decide +kernel)).1
            have d5 := (hd 5 (by decide +kernel)).1
            have d6 := (hd 6 (by decide +kernel)).1
            have d7 := (hd 7 (by decide +kernel)).1
            have d8 := (hd 8 (by decide +kernel)).1
            have d9 := (hd 9 (by decide +kernel)).1
            have d10 := (hd 10 (by decide +kernel)).1
            have d11 := (hd 11 (by decide +kernel)).1
            have d12 := (hd 12 (by decide +kernel)).1
            have d13 := (hd 13 (by decide +kernel)).1
            have d14 := (hd 14 (by decide +kernel)).1
            have d15 := (hd 15 (by decide +kernel)).1
            have d16 := (hd 16 (by decide +kernel)).1
            simp only [Bd.u, List.getD_cons_succ, List.getD_cons_zero, List.map_cons, List.map_nil] at d0 d1 d2 d3 d4 d5 d6 d7 d8 d9 d10 d11 d12 d13 d14 d15 d16
            clear d2 d8 d9 d11
            try simp only [d0, d1, d3, d4, d5, d6, d7, d10, d12, d13, d14, d15, d16]
            clear d0 d1 d3 d4 d5 d6 d7 d10 d12 d13 d14 d15 d16
            intro K hK
            go_wp2
            exact hK _ [] _ (Ext.refl u) (fun _ _ => rfl) (Own.nil _ _)
          · cases hoo
            simp only [putAll_toArray, put_toArray, List.map_cons, List.map_nil, setL, List.set_cons_succ, List.set_cons_zero, Bd.d, List.getD_cons_succ, List.getD_cons_zero]
            have d0 := (hd 0 (by decide +kernel)).1
            have d1 := (hd 1 (by decide +kernel)).1
            have d2 := (hd 2 (by decide +kernel)).1
            have d3 := (hd 3 (by decide +kernel)).1
            have d4 := (hd 4 (by decide +kernel)).1
            have d5 := (hd 5 (by decide +kernel)).1
            have d6 := (hd 6 (by decide +kernel)).1
            have d7 := (hd 7 (by decide +kernel)).1
            have d8 := (hd 8 (by decide +kernel)).1
            have d9 := (hd 9 (by decide +kernel)).1
            have d10 := (hd 10 (by decide +kernel)).1
            have d11 := (hd 11 (by decide +kernel)).1
            have d12 := (hd 12 (by decide +kernel)).1
            have d13 := (hd 13 (by decide +kernel)).1
            have d14 := (hd 14 (by decide +kernel)).1
            have d15 := (hd 15 (by decide +kernel)).1
            have d16 := (hd 16 (by decide +kernel)).1
            have d17 := (hd 17 (by decide +kernel)).1
            simp only [Bd.u, List.getD_cons_succ, List.getD_cons_zero, List.map_cons, List.map_nil] at d0 d1 d2 d3 d4 d5 d6 d7 d8 d9 d10 d11 d12 d13 d14 d15 d16 d17
            clear d2 d8 d9 d11
            try simp only [d0, d1, d3, d4, d5, d6, d7, d10, d12, d13, d14, d15, d16, d17]
            clear d0 d1 d3 d4 d5 d6 d7 d10 d12 d13 d14 d15 d16 d17
            intro K hK
            go_wp2
            exact hK _ [] _ (Ext.refl u) (fun _ _ => rfl) (Own.nil _ _)
          · cases hoo
            simp only [putAll_toArray, put_toArray, List.map_cons, List.map_nil, setL, List.set_cons_succ, List.set_cons_zero, Bd.d, List.getD_cons_succ, List.getD_cons_zero]
            have d0 := (hd 0 (by decide +kernel)).1
            have d1 := (hd 1 (by decide +kernel)).1
            have d2 := (hd 2 (by decide +kernel)).1
            have d3 := (hd 3 (by decide +kernel)).1
            have d4 := (hd 4 (by decide +kernel)).1
            have d5 := (hd 5 (by decide +kernel)).1
            have d6 := (hd 6 (by decide +kernel)).1
            have d7 := (hd 7 (by decide +kernel)).1
            have d8 := (hd 8 (by decide +kernel)).1
            have d9 := (hd 9 (by decide +kernel)).1
            have d10 := (hd 10 (by decide +kernel)).1
            have d11 := (hd 11 (by decide +kernel)).1
            have d12 := (hd 12 (by decide +kernel)).1
            have d13 := (hd 13 (by decide +kernel)).1
            have d14 := (hd 14 (by decide +kernel)).1
            have d15 := (hd 15 (by decide +kernel)).1
            have d16 := (hd 16 (by decide +kernel)).1
            have d17 := (hd 17 (by decide +kernel)).1
            have d18 := (hd 18 (by decide +kernel)).1
            simp only [Bd.u, List.getD_cons_succ, List.getD_cons_zero, List.map_cons, List.map_nil] at d0 d1 d2 d3 d4 d5 d6 d7 d8 d9 d10 d11 d12 d13 d14 d15 d16 d17 d18
            clear d2 d8 d9 d11
            try simp only [d0, d1, d3, d4, d5, d6, d7, d10, d12, d13, d14, d15, d16, d17, d18]
            clear d0 d1 d3 d4 d5 d6 d7 d10 d12 d13 d14 d15 d16 d17 d18
            intro K hK
            go_wp2
            exact hK _ [] _ (Ext.refl u) (fun _ _ => rfl) (Own.nil _ _)
          · cases hoo
            simp only [putAll_toArray, put_toArray, List.map_cons, List.map_nil, setL, List.set_cons_succ, List.set_cons_zero, Bd.d, List.getD_cons_succ, List.getD_cons_zero]
            have d0 := (hd 0 (by decide +kernel)).1
            have d1 := (hd 1 (by decide +kernel)).1
            have d2 := (hd 2 (by decide +kernel)).1
            have o2 := (hd 2 (by decide +kernel)).2
            have d3 := (hd 3 (by decide +kernel)).1
            have d4 := (hd 4 (by decide +kernel)).1
            have d5 := (hd 5 (by decide +kernel)).1
            have d6 := (hd 6 (by decide +kernel)).1
            have d7 := (hd 7 (by decide +kernel)).1
            have d8 := (hd 8 (by decide +kernel)).1
            have o8 := (hd 8 (by decide +kernel)).2
            have d9 := (hd 9 (by decide +kernel)).1
            have o9 := (hd 9 (by decide +kernel)).2
            have d10 := (hd 10 (by decide +kernel)).1
            have d11 := (hd 11 (by decide +kernel)).1
            have o11 := (hd 11 (by decide +kernel)).2
            have d12 := (hd 12 (by decide +kernel)).1
            have d13 := (hd 13 (by decide +kernel)).1
            have d14 := (hd 14 (by decide +kernel)).1
            have d15 := (hd 15 (by decide +kernel)).1
            have d16 := (hd 16 (by decide +kernel)).1
            have d17 := (hd 17 (by decide +kernel)).1
            have d18 := (hd 18 (by decide +kernel)).1
            have d19 := (hd 19 (by decide +kernel)).1
            simp only [Bd.u, List.getD_cons_succ, List.getD_cons_zero, List.map_cons, List.map_nil] at d0 d1 d2 d3 d4 d5 d6 d7 d8 d9 d10 d11 d12 d13 d14 d15 d16 d17 d18 d19
            try simp only [d0, d1, d3, d4, d5, d6, d7, d10, d12, d13, d14, d15, d16, d17, d18, d19]
            intro K hK
            go_wp2
            exact hK _ [] _ (Ext.refl u) (fun _ h => trivial) (Own.nil _ _)
          · cases hoo
            simp only [putAll_toArray, put_toArray, List.map_cons, List.map_nil, setL, List.set_cons_succ, List.set_cons_zero, Bd.d, List.getD_cons_succ, List.getD_cons_zero]
            have d0 := (hd 0 (by decide +kernel)).1
            have d1 := (hd 1 (by decide +kernel)).1
            have d2 := (hd 2 (by decide +kernel)).1
            have o2 := (hd 2 (by decide +kernel)).2
            have d3 := (hd 3 (by decide +kernel)).1
            have d4 := (hd 4 (by decide +kernel)).1
            have d5 := (hd 5 (by decide +kernel)).1
            have d6 := (hd 6 (by decide +kernel)).1
            have d7 := (hd 7 (by decide +kernel)).1
            have d8 := (hd 8 (by decide +kernel)).1
            have o8 := (hd 8 (by decide +kernel)).2
            have d9 := (hd 9 (by decide +kernel)).1
            have o9 := (hd 9 (by decide +kernel)).2
            have d10 := (hd 10 (by decide +kernel)).1
            have d11 := (hd 11 (by decide +kernel)).1
            have o11 := (hd 11 (by decide +kernel)).2
            have d12 := (hd 12 (by decide +kernel)).1
            have d13 := (hd 13 (by decide +kernel)).1
            have d14 := (hd 14 (by decide +kernel)).1
            have d15 := (hd 15 (by decide +kernel)).1
            have d16 := (hd 16 (by decide +kernel)).1
            have d17 := (hd 17 (by decide +kernel)).1
            have d18 := (hd 18 (by decide +kernel)).1
            have d19 := (hd 19 (by decide +kernel)).1
            simp only [Bd.u, List.getD_cons_succ, List.getD_cons_zero, List.map_cons, List.map_nil] at d0 d1 d2 d3 d4 d5 d6 d7 d8 d9 d10 d11 d12 d13 d14 d15 d16 d17 d18 d19
            try simp only [d0, d1, d3, d4, d5, d6, d7, d10, d12, d13, d14, d15, d16, d17, d18, d19]
            intro K hK
            go_wp2
            exact hK _ [] _ (Ext.refl u) (fun _ h => trivial) (Own.nil _ _)
          · cases hoo
            simp only [putAll_toArray, put_toArray, List.map_cons, List.map_nil, setL, List.set_cons_succ, List.set_cons_zero, Bd.d, List.getD_cons_succ, List.getD_cons_zero]
            have d0 := (hd 0 (by decide +kernel)).1
            have d1 := (hd 1 (by decide +kernel)).1
            have d2 := (hd 2 (by decide +kernel)).1
            have o2 := (hd 2 (by decide +kernel)).2
            have d3 := (hd 3 (by decide +kernel)).1
            have d4 := (hd 4 (by decide +kernel)).1
            have d5 := (hd 5 (by decide +kernel)).1
            have d6 := (hd 6 (by decide +kernel)).1
            have d7 := (hd 7 (by decide +kernel)).1
            have d8 := (hd 8 (by decide +kernel)).1
            have o8 := (hd 8 (by decide +kernel)).2
            have d9 := (hd 9 (by decide +kernel)).1
            have o9 := (hd 9 (by decide +kernel)).2
            have d10 := (hd 10 (by decide +kernel)).1
            have d11 := (hd 11 (by decide +kernel)).1
            have o11 := (hd 11 (by decide +kernel)).2
            have d12 := (hd 12 (by decide +kernel)).1
            have d13 := (hd 13 (by decide +kernel)).1
            have d14 := (hd 14 (by decide +kernel)).1
            have d15 := (hd 15 (by decide +kernel)).1
            have d16 := (hd 16 (by decide +kernel)).1
            have d17 := (hd 17 (by decide +kernel)).1
            have d18 := (hd 18 (by decide +kernel)).1
            have d19 := (hd 19 (by decide +kernel)).1
            have d20 := (hd 20 (by decide +kernel)).1
            have o20 := (hd 20 (by decide +kernel)).2
            have d21 := (hd 21 (by decide +kernel)).1
            have o21 := (hd 21 (by decide +kernel)).2
            simp only [Bd.u, List.getD_cons_succ, List.getD_cons_zero, List.map_cons, List.map_nil] at d0 d1 d2 d3 d4 d5 d6 d7 d8 d9 d10 d11 d12 d13 d14 d15 d16 d17 d18 d19 d20 d21
            try simp only [d0, d1, d3, d4, d5, d6, d7, d10, d12, d13, d14, d15, d16, d17, d18, d19]
            intro K hK
            go_wp2
            exact hK _ [] _ (Ext.refl u) (fun _ h => trivial) (Own.nil _ _)
          · cases hoo
            simp only [putAll_toArray, put_toArray, List.map_cons, List.map_nil, setL, List.set_cons_succ, List.set_cons_zero, Bd.d, List.getD_cons_succ, List.getD_cons_zero]
            have d0 := (hd 0 (by decide +kernel)).1
            have d1 := (hd 1 (by decide +kernel)).1
            have d2 := (hd 2 (by decide +kernel)).1
            have o2 := (hd 2 (by decide +kernel)).2
            have d3 := (hd 3 (by decide +kernel)).1
            have d4 := (hd 4 (by decide +kernel)).1
            have d5 := (hd 5 (by decide +kernel)).1
            have d6 := (hd 6 (by decide +kernel)).1
            have d7 := (hd 7 (by decide +kernel)).1
            have d8 := (hd 8 (by decide +kernel)).1
            have o8 := (hd 8 (by decide +kernel)).2
            have d9 := (hd 9 (by decide +kernel)).1
            have o9 := (hd 9 (by decide +kernel)).2
            have d10 := (hd 10 (by decide +kernel)).1
            have d11 := (hd 11 (by decide +kernel)).1
            have o11 := (hd 11 (by decide +kernel)).2
            have d12 := (hd 12 (by decide +kernel)).1
            have d13 := (hd 13 (by decide +kernel)).1
            have d14 := (hd 14 (by decide +kernel)).1
            have d15 := (hd 15 (by decide +kernel)).1
            have d16 := (hd 16 (by decide +kernel)).1
            have d17 := (hd 17 (by decide +kernel)).1
            have d18 := (hd 18 (by decide +kernel)).1
            have d19 := (hd 19 (by decide +kernel)).1
            have d20 := (hd 20 (by decide +kernel)).1
            have o20 := (hd 20 (by decide +kernel)).2
            have d21 := (hd 21 (by decide +kernel)).1
            have o21 := (hd 21 (by decide +kernel)).2
            have d22 := (hd 22 (by decide +kernel)).1
            have o22 := (hd 22 (by decide +kernel)).2
            simp only [Bd.u, List.getD_cons_succ, List.getD_cons_zero, List.map_cons, List.map_nil] at d0 d1 d2 d3 d4 d5 d6 d7 d8 d9 d10 d11 d12 d13 d14 d15 d16 d17 d18 d19 d20 d21 d22
            try simp only [d0, d1, d3, d4, d5, d6, d7, d10, d12, d13, d14, d15, d16, d17, d18, d19]
            intro K hK
            go_wp2
            exact hK _ [] _ (Ext.refl u) (fun _ h => trivial) (Own.nil _ _)
          · cases hoo
            simp only [putAll_toArray, put_toArray, List.map_cons, List.map_nil, setL, List.set_cons_succ, List.set_cons_zero, Bd.d, List.getD_cons_succ, List.getD_cons_zero]
            have d0 := (hd 0 (by decide +kernel)).1
            have d1 := (hd 1 (by decide +kernel)).1
            have d2 := (hd 2 (by decide +kernel)).1
            have o2 := (hd 2 (by decide +kernel)).2
            have d3 := (hd 3 (by decide +kernel)).1
            have d4 := (hd 4 (by decide +kernel)).1
            have d5 := (hd 5 (by decide +kernel)).1
            have d6 := (hd 6 (by decide +kernel)).1
            have d7 := (hd 7 (by decide +kernel)).1
            have d8 := (hd 8 (by decide +kernel)).1
            have o8 := (hd 8 (by decide +kernel)).2
            have d9 := (hd 9 (by decide +kernel)).1
            have o9 := (hd 9 (by decide +kernel)).2
            have d10 := (hd 10 (by decide +kernel)).1
            have d11 := (hd 11 (by decide +kernel)).1
            have o11 := (hd 11 (by decide +kernel)).2
            have d12 := (hd 12 (by decide +kernel)).1
            have d13 := (hd 13 (by decide +kernel)).1
            have d14 := (hd 14 (by decide +kernel)).1
            have d15 := (hd 15 (by decide +kernel)).1
            have d16 := (hd 16 (by decide +kernel)).1
            have d17 := (hd 17 (by decide +kernel)).1
            have d18 := (hd 18 (by decide +kernel)).1
            have d19 := (hd 19 (by decide +kernel)).1
            simp only [Bd.u, List.getD_cons_succ, List.getD_cons_zero, List.map_cons, List.map_nil] at d0 d1 d2 d3 d4 d5 d6 d7 d8 d9 d10 d11 d12 d13 d14 d15 d16 d17 d18 d19
            try simp only [d0, d1, d3, d4, d5, d6, d7, d10, d12, d13, d14, d15, d16, d17, d18, d19]
            intro K hK
            go_wp2
            exact hK _ [] _ (Ext.refl u) (fun _ h => trivial) (Own.nil _ _)
          · cases hoo
            simp only [putAll_toArray, put_toArray, List.map_cons, List.map_nil, setL, List.set_cons_succ, List.set_cons_zero, Bd.d, List.getD_cons_succ, List.getD_cons_zero]
            have d0 := (hd 0 (by decide +kernel)).1
            have d1 := (hd 1 (by decide +kernel)).1
            have d2 := (hd 2 (by decide +kernel)).1
            have o2 := (hd 2 (by decide +kernel)).2
            have d3 := (hd 3 (by decide +kernel)).1
            have d4 := (hd 4 (by decide +kernel)).1
            have d5 := (hd 5 (by decide +kernel)).1
            have d6 := (hd 6 (by decide +kernel)).1
            have d7 := (hd 7 (by decide +kernel)).1
            have d8 := (hd 8 (by decide +kernel)).1
            have o8 := (hd 8 (by decide +kernel)).2
            have d9 := (hd 9 (by decide +kernel)).1
            have o9 := (hd 9 (by decide +kernel)).2
            have d10 := (hd 10 (by decide +kernel)).1
            have d11 := (hd 11 (by decide +kernel)).1
            have o11 := (hd 11 (by decide +kernel)).2
            have d12 := (hd 12 (by decide +kernel)).1
            have d13 := (hd 13 (by decide +kernel)).1
            have d14 := (hd 14 (by decide +kernel)).1
            have d15 := (hd 15 (by decide +kernel)).1
            have d16 := (hd 16 (by decide +kernel)).1
            have d17 := (hd 17 (by decide +kernel)).1
            have d18 := (hd 18 (by decide +kernel)).1
            have d19 := (hd 19 (by decide +kernel)).1
            have d20 := (hd 20 (by decide +kernel)).1
            have o20 := (hd 20 (by decide +kernel)).2
            have d21 := (hd 21 (by decide +kernel)).1
            have o21 := (hd 21 (by decide +kernel)).2
            have d22 := (hd 22 (by decide +kernel)).1
            have o22 := (hd 22 (by decide +kernel)).2
            have d23 := (hd 23 (by decide +kernel)).1
            have o23 := (hd 23 (by decide +kernel)).2
            have d24 := (hd 24 (by decide +kernel)).1
            have o24 := (hd 24 (by decide +kernel)).2
            simp only [Bd.u, List.getD_cons_succ, List.getD_cons_zero, List.map_cons, List.map_nil] at d0 d1 d2 d3 d4 d5 d6 d7 d8 d9 d10 d11 d12 d13 d14 d15 d16 d17 d18 d19 d20 d21 d22 d23 d24
            try simp only [d0, d1, d3, d4, d5, d6, d7, d10, d12, d13, d14, d15, d16, d17, d18, d19]
            intro K hK
            go_wp2
            exact hK _ [] _ (Ext.refl u) (fun _ h => trivial) (Own.nil _ _)
          · cases hoo
            simp only [putAll_toArray, put_toArray, List.map_cons, List.map_nil, setL, List.set_cons_succ, List.set_cons_zero, Bd.d, List.getD_cons_succ, List.getD_cons_zero]
            have d0 := (hd 0 (by decide +kernel)).1
            have d1 := (hd 1 (by decide +kernel)).1
            have d2 := (hd 2 (by decide +kernel)).1
            have o2 := (hd 2 (by decide +kernel)).2
            have d3 := (hd 3 (by decide +kernel)).1
            have d4 := (hd 4 (by decide +kernel)).1
            have d5 := (hd 5 (by decide +kernel)).1
            have d6 := (hd 6 (by decide +kernel)).1
            have d7 := (hd 7 (by decide +kernel)).1
            have d8 := (hd 8 (by decide +kernel)).1
            have o8 := (hd 8 (by decide +kernel)).2
            have d9 := (hd 9 (by decide +kernel)).1
            have o9 := (hd 9 (by decide +kernel)).2
            have d10 := (hd 10 (by decide +kernel)).1
            have d11 := (hd 11 (by decide +kernel)).1
            have o11 := (hd 11 (by decide +kernel)).2
            have d12 := (hd 12 (by decide +kernel)).1
            have d13 := (hd 13 (by decide +kernel)).1
            have d14 := (hd 14 (by decide +kernel)).1
            have d15 := (hd 15 (by decide +kernel)).1
            have d16 := (hd 16 (by decide +kernel)).1
            have d17 := (hd 17 (by decide +kernel)).1
            have d18 := (hd 18 (by decide +kernel)).1
            have d19 := (hd 19 (by decide +kernel)).1
            have d20 := (hd 20 (by decide +kernel)).1
            have o20 := (hd 20 (by decide +kernel)).2
            have d21 := (hd 21 (by decide +kernel)).1
            have o21 := (hd 21 (by decide +kernel)).2
            have d22 := (hd 22 (by decide +kernel)).1
            have o22 := (hd 22 (by decide +kernel)).2
            have d23 := (hd 23 (by decide +kernel)).1
            have o23 := (hd 23 (by decide +kernel)).2
            have d24 := (hd 24 (by decide +kernel)).1
            have o24 := (hd 24 (by decide +kernel)).2
            have d25 := (hd 25 (by decide +kernel)).1
            have o25 := (hd 25 (by decide +kernel)).2
            simp only [Bd.u, List.getD_cons_succ, List.getD_cons_zero, List.map_cons, List.map_nil] at d0 d1 d2 d3 d4 d5 d6 d7 d8 d9 d10 d11 d12 d13 d14 d15 d16 d17 d18 d19 d20 d21 d22 d23 d24 d25
            try simp only [d0, d1, d3, d4, d5, d6, d7, d10, d12, d13, d14, d15, d16, d17, d18, d19]
            intro K hK
            go_wp2
            exact hK _ [] _ (Ext.refl u) (fun _ h => trivial) (Own.nil _ _)
          · cases hoo
            simp only [putAll_toArray, put_toArray, List.map_cons, List.map_nil, setL, List.set_cons_succ, List.set_cons_zero, Bd.d, List.getD_cons_succ, List.getD_cons_zero]
            have d0 := (hd 0 (by decide +kernel)).1
            have d1 := (hd 1 (by decide +kernel)).1
            have d2 := (hd 2 (by decide +kernel)).1
            have d3 := (hd 3 (by decide +kernel)).1
            have d4 := (hd 4 (by decide +kernel)).1
            have d5 := (hd 5 (by decide +kernel)).1
            have d6 := (hd 6 (by decide +kernel)).1
            have d7 := (hd 7 (by decide +kernel)).1
            have d8 := (hd 8 (by decide +kernel)).1
            have d9 := (hd 9 (by decide +kernel)).1
            have d10 := (hd 10 (by decide +kernel)).1
            have d11 := (hd 11 (by decide +kernel)).1
            have d12 := (hd 12 (by decide +kernel)).1
            have d13 := (hd 13 (by decide +kernel)).1
            have d14 := (hd 14 (by decide +kernel)).1
            have d15 := (hd 15 (by decide +kernel)).1
            have d16 := (hd 16 (by decide +kernel)).1
            have d17 := (hd 17 (by decide +kernel)).1
            have d18 := (hd 18 (by decide +kernel)).1
            have d19 := (hd 19 (by decide +kernel)).1
            have d20 := (hd 20 (by decide +kernel)).1
            have d21 := (hd 21 (by decide +kernel)).1
            have d22 := (hd 22 (by decide +kernel)).1
            have d23 := (hd 23 (by decide +kernel)).1
            have d24 := (hd 24 (by decide +kernel)).1
            have d25 := (hd 25 (by decide +kernel)).1
            have d26 := (hd 26 (by decide +kernel)).1
            simp only [Bd.u, List.getD_cons_succ, List.getD_cons_zero, List.map_cons, List.map_nil] at d0 d1 d2 d3 d4 d5 d6 d7 d8 d9 d10 d11 d12 d13 d14 d15 d16 d17 d18 d19 d20 d21 d22 d23 d24 d25 d26
            clear d2 d8 d9 d11 d20 d21 d22 d23 d24 d25 d26
            try simp only [d0, d1, d3, d4, d5, d6, d7, d10, d12, d13, d14, d15, d16, d17, d18, d19]
            clear d0 d1 d3 d4 d5 d6 d7 d10 d12 d13 d14 d15 d16 d17 d18 d19
            intro K hK
            go_wp2
            exact hK _ [] _ (Ext.refl u) (fun _ _ => rfl) (Own.nil _ _)
          · cases hoo
            simp only [putAll_toArray, put_toArray, List.map_cons, List.map_nil, setL, List.set_cons_succ, List.set_cons_zero, Bd.d, List.getD_cons_succ, List.getD_cons_zero]
            have d0 := (hd 0 (by decide +kernel)).1
            have d1 := (hd 1 (by decide +kernel)).1
            have d2 := (hd 2 (by decide +kernel)).1
            have d3 := (hd 3 (by decide +kernel)).1
            have d4 := (hd 4 (by decide +kernel)).1
            have d5 := (hd 5 (by decide +kernel)).1
            have d6 := (hd 6 (by decide +kernel)).1
            have d7 := (hd 7 (by decide +kernel)).1
            have d8 := (hd 8 (by decide +kernel)).1
            have d9 := (hd 9 (by decide +kernel)).1
            have d10 := (hd 10 (by decide +kernel)).1
            have d11 := (hd 11 (by decide +kernel)).1
            have d12 := (hd 12 (by decide +kernel)).1
            have d13 := (hd 13 (by decide +kernel)).1
            have d14 := (hd 14 (by decide +kernel)).1
            have d15 := (hd 15 (by decide +kernel)).1
            have d16 := (hd 16 (by decide +kernel)).1
            have d17 := (hd 17 (by decide +kernel)).1
            have d18 := (hd 18 (by decide +kernel)).1
            have d19 := (hd 19 (by decide +kernel)).1
            have d20 := (hd 20 (by decide +kernel)).1
            have d21 := (hd 21 (by decide +kernel)).1
            have d22 := (hd 22 (by decide +kernel)).1
            have d23 := (hd 23 (by decide +kernel)).1
            have d24 := (hd 24 (by decide +kernel)).1
            have d25 := (hd 25 (by decide +kernel)).1
            have d26 := (hd 26 (by decide +kernel)).1
            have d27 := (hd 27 (by decide +kernel)).1
            simp only [Bd.u, List.getD_cons_succ, List.getD_cons_zero, List.map_cons, List.map_nil] at d0 d1 d2 d3 d4 d5 d6 d7 d8 d9 d10 d11 d12 d13 d14 d15 d16 d17 d18 d19 d20 d21 d22 d23 d24 d25 d26 d27
            clear d2 d8 d9 d11 d20 d21 d22 d23 d24 d25 d26
            try simp only [d0, d1, d3, d4, d5, d6, d7, d10, d12, d13, d14, d15, d16, d17, d18, d19, d27]
            clear d0 d1 d3 d4 d5 d6 d7 d10 d12 d13 d14 d15 d16 d17 d18 d19 d27
            intro K hK
            go_wp2
            exact hK _ [] _ (Ext.refl u) (fun _ _ => rfl) (Own.nil _ _)
        · intro oo hoo U u2 F hE hφ hap
          cases hoo
          simp only [putAll_toArray, put_toArray, List.map_cons, List.map_nil, setL, List.set_cons_succ, List.set_cons_zero, Bd.d, List.getD_cons_succ, List.getD_cons_zero]
          have d0 := (hφ 0 (by omega)).1
          have d1 := (hφ 1 (by omega)).1
          have d2 := (hφ 2 (by omega)).1
          have o2 := (hφ 2 (by omega)).2
          have d3 := (hφ 3 (by omega)).1
          have d4 := (hφ 4 (by omega)).1
          have d5 := (hφ 5 (by omega)).1
          have d6 := (hφ 6 (by omega)).1
          have d7 := (hφ 7 (by omega)).1
          have d8 := (hφ 8 (by omega)).1
          have o8 := (hφ 8 (by omega)).2
          have d9 := (hφ 9 (by omega)).1
          have o9 := (hφ 9 (by omega)).2
          have d10 := (hφ 10 (by omega)).1
          have d11 := (hφ 11 (by omega)).1
          have o11 := (hφ 11 (by omega)).2
          have d12 := (hφ 12 (by omega)).1
          have d13 := (hφ 13 (by omega)).1
          have d14 := (hφ 14 (by omega)).1
          have d15 := (hφ 15 (by omega)).1
          have d16 := (hφ 16 (by omega)).1
          have d17 := (hφ 17 (by omega)).1
          have d18 := (hφ 18 (by omega)).1
          have d19 := (hφ 19 (by omega)).1
          have d20 := (hφ 20 (by omega)).1
          have o20 := (hφ 20 (by omega)).2
          have d21 := (hφ 21 (by omega)).1
          have o21 := (hφ 21 (by omega)).2
          have d22 := (hφ 22 (by omega)).1
          have o22 := (hφ 22 (by omega)).2
          have d23 := (hφ 23 (by omega)).1
          have o23 := (hφ 23 (by omega)).2
          have d24 := (hφ 24 (by omega)).1
          have o24 := (hφ 24 (by omega)).2
          have d25 := (hφ 25 (by omega)).1
          have o25 := (hφ 25 (by omega)).2
          have d26 := (hφ 26 (by omega)).1
          have o26 := (hφ 26 (by omega)).2
          have d27 := (hφ 27 (by omega)).1
          have d28 := (hφ 28 (by omega)).1
          simp only [Bd.u, List.getD_cons_succ, List.getD_cons_zero, List.map_cons, List.map_nil] at d0 d1 d2 d3 d4 d5 d6 d7 d8 d9 d10 d11 d12 d13 d14 d15 d16 d17 d18 d19 d20 d21 d22 d23 d24 d25 d26 d27 d28
          try simp only [d0, d1, d3, d4, d5, d6, d7, d10, d12, d13, d14, d15, d16, d17, d18, d19, d27, d28]
          have HE9 := Lib.hid hE
          clear hφ hap hE d0 d1 d2 d3 d4 d5 d6 d7 d8 d9 d10 d11 d12 d13 d14 d15 d16 d17 d18 d19 d20 d21 d22 d23 d24 d25 d26 d27
          go_wp2
          go_ret
          exact ⟨rfl, HS6.out.tr HE9.out⟩
      · have hcT := Lib.hid (M.cut_twice hX.out hsl)
        have htx : GT.tot x ≤ 1048576 := by have := (HDS.out.cut q).tot; rw [hX.out] at this; omega
        have hsp : x.Slots.length ≠ 0 := fun h => hsl (List.length_eq_zero_iff.1 h)
        have hzi : ((x.Slots.length : Int) == 0) = false := beq_eq_false_iff_ne.2 (by omega)
        clear hsl hsp
        go_region_held3 (fun u => u.cell? ⟨w1.heap.size, 0, none⟩ = some (.slice a0 s.Parts.length c0) ∧ u.cell? ⟨w1.heap.size, 1, none⟩ = some (.slice a1 s.Channels.length c1) ∧ u.cell? ⟨w1.heap.size, 2, none⟩ = some (.slice a2 s.Slots.length c2) ∧ u.cell? ⟨w2.heap.size, 0, none⟩ = some (.slice x0 x.Parts.length y0) ∧ u.cell? ⟨w2.heap.size, 1, none⟩ = some (.slice x1 x.Channels.length y1) ∧ u.cell? ⟨w2.heap.size, 2, none⟩ = some (.slice x2 x.Slots.length y2))
          (first
            | go_keep
            | exact ⟨(cell_ext HE1.out hA10).trans a10, (cell_ext HE1.out hA10).trans a11, (cell_ext HE1.out hA10).trans a12, (cell_ext HE1.out hB10).trans b10, (cell_ext HE1.out hB10).trans b11, (cell_ext HE1.out hB10).trans b12⟩)
          (first
            | (go_at_call 9; refine (law_sameInts _ _ N N w18 HO7.out HO8.out).mono ?_; rintro e w19 ⟨rfl, he⟩; rw [Eqb.t (rfl : N = N)]; replace HE1 := Lib.hid (HE1.out.tr he); clear he)
            | (go_at_call 10; refine (impl_SetupNumbers _ x w17 (HO.out.ext HE1.out)).mono ?_; rintro e w18 ⟨v18, rfl, ho, he⟩; rw [hN] at ho; have HO8 := Lib.hid ho.rs; replace HO7 := Lib.hid (HO7.out.ext he); replace HE1 := Lib.hid (HE1.out.tr he); clear ho he)
            | (go_at_call 10; refine (impl_SetupNumbers _ x w16 HX6.out).mono ?_; rintro e w17 ⟨v17, rfl, ho, he⟩; rw [hN] at ho; have HO7 := Lib.hid ho.rs; replace HE1 := Lib.hid (HE1.out.tr he); clear ho he)
            | (go_at_call 8; refine (impl_CutChannels _ _ x q w15 (HO.out.ext HE1.out) (HPQ.out.ext HE1.out) htx).mono ?_; rintro e w16 ⟨v16, rfl, ho, he⟩; rw [hcT.out] at ho; have HX6 := Lib.hid ho.rv; replace HE1 := Lib.hid (HE1.out.tr he); clear ho he)
            | (go_at_call 9; refine (law_sameInts _ _ Ns Ns _ HO3.out HO4.out).mono ?_; rintro e w15 ⟨rfl, he⟩; rw [Eqb.t (rfl : Ns = Ns)]; replace HE1 := Lib.hid (HE1.out.tr he); clear he)
            | (go_at_call 10; refine (impl_SetupNumbers _ s w13 (HP.out.ext HE1.out)).mono ?_; rintro e w14 ⟨v14, rfl, ho, he⟩; rw [hNs] at ho; have HO4 := Lib.hid ho.rs; replace HO3 := Lib.hid (HO3.out.ext he); replace HE1 := Lib.hid (HE1.out.tr he); clear ho he)
            | (go_at_call 10; refine (impl_SetupNumbers _ s _ HX2.out).mono ?_; rintro e w13 ⟨v13, rfl, ho, he⟩; rw [hNs] at ho; have HO3 := Lib.hid ho.rs; replace HE1 := Lib.hid (HE1.out.tr he); clear ho he)
            | (go_at_call 8; refine (impl_CutChannels _ _ s al _ (HP.out.ext HE1.out) (HAL.out.ext HE1.out) htot).mono ?_; rintro e w12 ⟨v12, rfl, ho, he⟩; rw [hcA.out] at ho; have HX2 := Lib.hid ho.rv; replace HE1 := Lib.hid (HE1.out.tr he); clear ho he)
            | (go_at_call 15; refine (impl_PolicyGaps _ _ s al _ (HP.out.ext (Ext.refl wo).drew) (HAL.out.ext (Ext.refl wo).drew)).mono ?_; rintro e w11 ⟨v11, rfl, ho, he⟩; rw [hgA.out] at ho; obtain ⟨p11, q11, rfl, _⟩ := ho.rs.form; have HE1 := Lib.hid ((Ext.refl wo).drew.tr he); clear ho he))
        go_wp2
        go_ret
        exact ⟨rfl, HS6.out.tr HE1.out⟩
end Sk

