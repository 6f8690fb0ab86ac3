/- Contracts of functions of the given program, and lemmas for them: each theorem states the condition under which it holds. -/
import Derived.Test.YtmkibejcdldjeaaChecked
import Derived.Deep.CutBlock
import Derived.Deep.CutRange
import Derived.Test.YtmkibejcdldjeaaFaultI
import Derived.Test.YtmkibejcdldjeaaNums
import Derived.Test.YtmkibejcdldjeaaBuild
import Derived.Test.YtmkibejcdldjeaaClash
import Derived.Test.YtmkibejcdldjeaaClashS
namespace Sk
open Go Go.Proofs Go.RowKit
set_option maxHeartbeats 2000000
set_option maxRecDepth 100000
set_option linter.unusedVariables false
set_option linter.unusedSimpArgs false
theorem M.tightAt_iff {xs : List Slot} {k : Nat} {x y : Slot} (hx : xs[k]? = some x) (hy : xs[(k + 1) % xs.length]? = some y) : M.tightAt xs k ↔ (decide (0 ≤ x.Who) = true ∧ decide (0 ≤ y.Who) = true ∧ (x.Who != y.Who) = true) := by
  constructor
  · rintro ⟨x', y', h1, h2, h3, h4, h5⟩
    rw [hx] at h1; cases h1
    rw [hy] at h2; cases h2
    exact ⟨decide_eq_true h3, decide_eq_true h4, by simpa using h5⟩
  · rintro ⟨h3, h4, h5⟩
    exact ⟨x, y, hx, hy, of_decide_eq_true h3, of_decide_eq_true h4, by simpa using h5⟩
theorem impl_tight (v : Value) (s : Setup) (w : World) (h : Rv w v s) (h12 : s.Slots.length ≤ 12) :
    Calls Try.prog 46 #[v] w fun e w' => e = .returned (.bool (M.tight s)) ∧ Ext w w' := by
  obtain ⟨a0, c0, a1, c1, a2, c2, rfl, h0, hl0, h1, hl1, h2, hl2⟩ := h.openSetup
  clear h h0 h1
  go_enter Try.func46, Try.ntmps46
  go_upto_block 0 with (fail)
  refine abs_world (fun W => Ext w W ∧ Bk W w.heap.size [.slice a0 s.Parts.length c0, .slice a1 s.Channels.length c1, .slice a2 s.Slots.length c2] 27) ⟨(Ext.refl _).alloc _, Bk.new _ _ _⟩ ?_
  rintro W ⟨e0, kA⟩
  have HW := Lib.hid e0
  have hA := kA.lt
  have d2 := kA.cell (j := 2) rfl
  clear e0 kA
  generalize hLen : s.Slots.length = len at *
  replace hLen := Lib.hid hLen
  go_wp2_with fail
  go_loopw [9] (fun i wr => ∃ k : Nat, k ≤ len ∧ i = .int .i64 k ∧ (∀ j, j < k → ¬ M.tightAt s.Slots j) ∧ Ext W wr) (fun i _ => len - (intOf i).toNat)
  case atStart => exact ⟨0, Nat.zero_le _, rfl, fun j h => absurd h (Nat.not_lt_zero _), Ext.refl _⟩
  case round =>
    obtain ⟨k, hk, rfl, hinv, hq⟩ := hrel
    have f2 := (cell_ext hq hA).trans d2
    have HQ := Lib.hid hq
    have HI := Lib.hid hinv
    have hAr := Nat.lt_of_lt_of_le hA hq.sz
    clear hq hinv
    by_cases hkt : k < len
    · obtain ⟨b, o, x, rfl, hb, hx, hc0, hc1, hr0, hr1, hvx⟩ := (h2.out.ext (HW.out.tr HQ.out)).atSlot k (by rw [hLen.out]; exact hkt)
      have hI : (k + 1) % len < len := Nat.mod_lt _ (by omega)
      have hm1 : ((k : Int) + 1).tmod (len : Int) = (((k + 1) % len : Nat) : Int) := by
        have := (Int.ofNat_tmod (k + 1) len).symm
        rw [← this]; congr 1
      obtain ⟨b2, o2, y, hb2, hb2l, hy, he0, he1, hs0, hs1, hvy⟩ := (h2.out.ext (HW.out.tr HQ.out)).atSlot ((k + 1) % len) (by rw [hLen.out]; exact hI)
      cases hb2
      have hTA := M.tightAt_iff hx.out (by rw [hLen.out]; exact hy.out)
      have HTA := Lib.hid hTA
      clear hTA
      generalize (k + 1) % len = I at *
      have hlz : (len : Int) ≠ 0 := by omega
      obtain ⟨wo, rfl⟩ : ∃ wo, wo = wr := ⟨_, rfl⟩
      go_upto_region 4 with (fail)
      refine abs_world (fun W1 => Ext wo W1 ∧ Bk W1 wo.heap.size [.int .i64 x.Who, .int .i64 x.Ticks] 45) ⟨(Ext.refl _).alloc _, Bk.new _ _ _⟩ ?_
      rintro W1 ⟨e1, kC⟩
      have HE1 := Lib.hid e1
      have KC := Lib.hid kC
      have hB1 := kC.lt
      have f3 := (cell_ext e1 hAr).trans f2
      have hA1 := Nat.lt_of_lt_of_le hAr e1.sz
      have s0 := (cell_ext e1 hb2l).trans he0
      have s1 := (cell_ext e1 hb2l).trans he1
      have hb21 := Nat.lt_of_lt_of_le hb2l e1.sz
      clear e1 kC hc0 hc1 he0 he1 f2
      refine wp_region_tab rfl 11 [(14, [14]), (15, [15]), (16, [16]), (17, [17]), (18, [18]), (19, [19]), (20, [20]), (21, [21]), (22, [22]), (23, [23]), (5, [5])]
        (fun i vs u F => match i, vs with
          | 0, [z] => z = .pointer (some ⟨w.heap.size, 2, none⟩)
          | 1, [z] => z = .slice (some ⟨b, o, none⟩) len c2
          | 2, [z] => z = .int .i64 k
          | 3, [z] => z = .int .i64 ((k : Int) + 1)
          | 4, [z] => z = .pointer (some ⟨w.heap.size, 2, none⟩)
          | 5, [z] => z = .slice (some ⟨b, o, none⟩) len c2
          | 6, [z] => z = .int .i64 len
          | 7, [z] => z = .int .i64 I
          | 8, [z] => z = .pointer (some ⟨b, o + I * 2, none⟩)
          | 9, [z] => z = .agg #[.int .i64 y.Who, .int .i64 y.Ticks]
          | 10, [z] => ∃ B, z = .pointer (some ⟨B, 0, none⟩) ∧ W1.heap.size ≤ B ∧ Bk u B [.int .i64 0, .int .i64 0] 45
          | _, _ => False) (by decide +kernel) ?_ ?_
      · intro i hi oo ho U u F hE hd hap
        have e0 := (cell_ext hE hA1).trans f3
        have e1 := (cell_ext hE hb21).trans s0
        have e2 := (cell_ext hE hb21).trans s1
        rcases (by omega : i = 0 ∨ i = 1 ∨ i = 2 ∨ i = 3 ∨ i = 4 ∨ i = 5 ∨ i = 6 ∨ i = 7 ∨ i = 8 ∨ i = 9 ∨ i = 10) with rfl | rfl | rfl | rfl | rfl | rfl | rfl | rfl | rfl | rfl | rfl
        · cases ho
          simp only [putAll_toArray, put_toArray, List.map_cons, List.map_nil, setL, List.set_cons_succ, List.set_cons_zero, Bd.d, List.getD_cons_succ, List.getD_cons_zero]
          intro K hK
          go_wp2
          exact hK _ [] _ (Ext.refl u) (fun _ _ => rfl) (Own.nil _ _)
        · cases ho
          simp only [putAll_toArray, put_toArray, List.map_cons, List.map_nil, setL, List.set_cons_succ, List.set_cons_zero, Bd.d, List.getD_cons_succ, List.getD_cons_zero]
          have d0 := (hd 0 (by decide +kernel)).1
          simp only [Bd.u, List.getD_cons_succ, List.getD_cons_zero, List.map_cons, List.map_nil] at d0
          try simp only [d0]
          clear d0
          intro K hK
          go_wp2
          exact hK _ [] _ (Ext.refl u) (fun _ _ => rfl) (Own.nil _ _)
        · cases ho
          simp only [putAll_toArray, put_toArray, List.map_cons, List.map_nil, setL, List.set_cons_succ, List.set_cons_zero, Bd.d, List.getD_cons_succ, List.getD_cons_zero]
          intro K hK
          go_wp2
          exact hK _ [] _ (Ext.refl u) (fun _ _ => rfl) (Own.nil _ _)
        · cases ho
          simp only [putAll_toArray, put_toArray, List.map_cons, List.map_nil, setL, List.set_cons_succ, List.set_cons_zero, Bd.d, List.getD_cons_succ, List.getD_cons_zero]
          have d2 := (hd 2 (by decide +kernel)).1
          simp only [Bd.u, List.getD_cons_succ, List.getD_cons_zero, List.map_cons, List.map_nil] at d2
          try simp only [d2]
          clear d2
          intro K hK
          go_wp2
          exact hK _ [] _ (Ext.refl u) (fun _ _ => rfl) (Own.nil _ _)
        · cases ho
          simp only [putAll_toArray, put_toArray, List.map_cons, List.map_nil, setL, List.set_cons_succ, List.set_cons_zero, Bd.d, List.getD_cons_succ, List.getD_cons_zero]
          intro K hK
          go_wp2
          exact hK _ [] _ (Ext.refl u) (fun _ _ => rfl) (Own.nil _ _)
        · cases ho
          simp only [putAll_toArray, put_toArray, List.map_cons, List.map_nil, setL, List.set_cons_succ, List.set_cons_zero, Bd.d, List.getD_cons_succ, List.getD_cons_zero]
          have d4 := (hd 4 (by decide +kernel)).1
          simp only [Bd.u, List.getD_cons_succ, List.getD_cons_zero, List.map_cons, List.map_nil] at d4
          try simp only [d4]
          clear d4
          intro K hK
          go_wp2
          exact hK _ [] _ (Ext.refl u) (fun _ _ => rfl) (Own.nil _ _)
        · cases ho
          simp only [putAll_toArray, put_toArray, List.map_cons, List.map_nil, setL, List.set_cons_succ, List.set_cons_zero, Bd.d, List.getD_cons_succ, List.getD_cons_zero]
          have d4 := (hd 4 (by decide +kernel)).1
          have d5 := (hd 5 (by decide +kernel)).1
          simp only [Bd.u, List.getD_cons_succ, List.getD_cons_zero, List.map_cons, List.map_nil] at d4 d5
          try simp only [d4, d5]
          clear d4 d5
          intro K hK
          go_wp2
          exact hK _ [] _ (Ext.refl u) (fun _ _ => rfl) (Own.nil _ _)
        · cases ho
          simp only [putAll_toArray, put_toArray, List.map_cons, List.map_nil, setL, List.set_cons_succ, List.set_cons_zero, Bd.d, List.getD_cons_succ, List.getD_cons_zero]
          have d2 := (hd 2 (by decide +kernel)).1
          have d3 := (hd 3 (by decide +kernel)).1
          have d4 := (hd 4 (by decide +kernel)).1
          have d5 := (hd 5 (by decide +kernel)).1
          have d6 := (hd 6 (by decide +kernel)).1
          simp only [Bd.u, List.getD_cons_succ, List.getD_cons_zero, List.map_cons, List.map_nil] at d2 d3 d4 d5 d6
          try simp only [d2, d3, d4, d5, d6]
          clear d2 d3 d4 d5 d6
          intro K hK
          go_wp2
          exact hK _ [] _ (Ext.refl u) (fun _ _ => rfl) (Own.nil _ _)
        · cases ho
          simp only [putAll_toArray, put_toArray, List.map_cons, List.map_nil, setL, List.set_cons_succ, List.set_cons_zero, Bd.d, List.getD_cons_succ, List.getD_cons_zero]
          have d0 := (hd 0 (by decide +kernel)).1
          have d1 := (hd 1 (by decide +kernel)).1
          have d2 := (hd 2 (by decide +kernel)).1
          have d3 := (hd 3 (by decide +kernel)).1
          have d4 := (hd 4 (by decide +kernel)).1
          have d5 := (hd 5 (by decide +kernel)).1
          have d6 := (hd 6 (by decide +kernel)).1
          have d7 := (hd 7 (by decide +kernel)).1
          simp only [Bd.u, List.getD_cons_succ, List.getD_cons_zero, List.map_cons, List.map_nil] at d0 d1 d2 d3 d4 d5 d6 d7
          try simp only [d0, d1, d2, d3, d4, d5, d6, d7]
          clear d0 d1 d2 d3 d4 d5 d6 d7
          intro K hK
          go_wp2
          exact hK _ [] _ (Ext.refl u) (fun _ _ => rfl) (Own.nil _ _)
        · cases ho
          simp only [putAll_toArray, put_toArray, List.map_cons, List.map_nil, setL, List.set_cons_succ, List.set_cons_zero, Bd.d, List.getD_cons_succ, List.getD_cons_zero]
          have d0 := (hd 0 (by decide +kernel)).1
          have d1 := (hd 1 (by decide +kernel)).1
          have d2 := (hd 2 (by decide +kernel)).1
          have d3 := (hd 3 (by decide +kernel)).1
          have d4 := (hd 4 (by decide +kernel)).1
          have d5 := (hd 5 (by decide +kernel)).1
          have d6 := (hd 6 (by decide +kernel)).1
          have d7 := (hd 7 (by decide +kernel)).1
          have d8 := (hd 8 (by decide +kernel)).1
          simp only [Bd.u, List.getD_cons_succ, List.getD_cons_zero, List.map_cons, List.map_nil] at d0 d1 d2 d3 d4 d5 d6 d7 d8
          try simp only [d0, d1, d2, d3, d4, d5, d6, d7, d8]
          clear d0 d1 d2 d3 d4 d5 d6 d7 d8
          intro K hK
          go_wp2
          exact hK _ [] _ (Ext.refl u) (fun _ _ => rfl) (Own.nil _ _)
        · cases ho
          simp only [putAll_toArray, put_toArray, List.map_cons, List.map_nil, setL, List.set_cons_succ, List.set_cons_zero, Bd.d, List.getD_cons_succ, List.getD_cons_zero]
          intro K hK
          go_wp2
          have hsz := hE.sz
          exact hK _ [] _ ((Ext.refl u).alloc _) (fun _ h => ⟨_, rfl, hsz, (Bk.new u [.int .i64 0, .int .i64 0] 45).ext h⟩) (Own.nil _ _)
      · intro oo ho U u2 F hE hφ hap
        cases ho
        simp only [putAll_toArray, put_toArray, List.map_cons, List.map_nil, setL, List.set_cons_succ, List.set_cons_zero, Bd.d, List.getD_cons_succ, List.getD_cons_zero]
        have d0 := (hφ 0 (by omega)).1
        have d1 := (hφ 1 (by omega)).1
        have d2 := (hφ 2 (by omega)).1
        have d3 := (hφ 3 (by omega)).1
        have d4 := (hφ 4 (by omega)).1
        have d5 := (hφ 5 (by omega)).1
        have d6 := (hφ 6 (by omega)).1
        have d7 := (hφ 7 (by omega)).1
        have d8 := (hφ 8 (by omega)).1
        have d9 := (hφ 9 (by omega)).1
        have d10 := (hφ 10 (by omega)).1
        have o10 := (hφ 10 (by omega)).2
        simp only [Bd.u, List.getD_cons_succ, List.getD_cons_zero, List.map_cons, List.map_nil] at d0 d1 d2 d3 d4 d5 d6 d7 d8 d9 d10
        try simp only [d0, d1, d2, d3, d4, d5, d6, d7, d8, d9]
        obtain ⟨B, d10, hBB, kD⟩ := d10
        simp only [d10]
        have t0 := kD.cell (j := 0) rfl
        have t1 := kD.cell (j := 1) rfl
        have tf := kD.fz
        have tl := kD.lt
        have kE := KC.out.ext hE
        have r0 := kE.cell (j := 0) rfl
        have r1 := kE.cell (j := 1) rfl
        have hB2 := Nat.lt_of_lt_of_le hB1 hE.sz
        have hne : wo.heap.size ≠ B := by omega
        have HE2 := Lib.hid (HQ.out.tr (HE1.out.tr hE))
        have hwB : W.heap.size ≤ B := by have := (HQ.out.tr HE1.out).sz; omega
        have hk1 : Bk ((u2.setCell ⟨B, 0, none⟩ (.int .i64 y.Who)).setCell ⟨B, 1, none⟩ (.int .i64 y.Ticks)) B [.int .i64 y.Who, .int .i64 y.Ticks] 45 := by
          have := (kD.set 0 (.int .i64 y.Who)).set 1 (.int .i64 y.Ticks)
          simpa using this
        have hk2 : Bk ((u2.setCell ⟨B, 0, none⟩ (.int .i64 y.Who)).setCell ⟨B, 1, none⟩ (.int .i64 y.Ticks)) wo.heap.size [.int .i64 x.Who, .int .i64 x.Ticks] 45 := (kE.set_ne hne _).set_ne hne _
        replace kE := Lib.hid kE
        replace kD := Lib.hid kD
        have hk3 := Lib.hid hk1
        have hk4 := Lib.hid hk2
        clear hφ hap hE d0 d1 d2 d3 d4 d5 d6 d7 d8 hk1 hk2 hm1 s0 s1 f3
        go_upto_region 5 with (fail)
        refine abs_world (fun u => Ext W u ∧ Bk u B [.int .i64 y.Who, .int .i64 y.Ticks] 45 ∧ Bk u wo.heap.size [.int .i64 x.Who, .int .i64 x.Ticks] 45) ⟨(HE2.out.set hwB _).set hwB _, hk3.out, hk4.out⟩ ?_
        rintro u3 ⟨e3, kk1, kk2⟩
        have q0 := kk1.cell (j := 0) rfl
        have q1 := kk2.cell (j := 0) rfl
        have ql := kk1.lt
        have ql2 := kk2.lt
        have HE3 := Lib.hid e3
        clear e3 kk1 kk2 hk3 hk4 t0 t1 tf tl r0 r1 hB2
        obtain ⟨p1, hp1⟩ : ∃ p, decide (0 ≤ x.Who) = p := ⟨_, rfl⟩
        obtain ⟨p2, hp2⟩ : ∃ p, decide (0 ≤ y.Who) = p := ⟨_, rfl⟩
        obtain ⟨p3, hp3⟩ : ∃ p, (x.Who != y.Who) = p := ⟨_, rfl⟩
        have hT : Hid (M.tightAt s.Slots k ↔ p1 = true ∧ p2 = true ∧ p3 = true) := Lib.hid (by rw [← hp1, ← hp2, ← hp3]; exact HTA.out)
        cases p1
        · go_wp2
          go_roundw
          case rel => exact ⟨k + 1, by omega, by go_num, fun j hj => by
            by_cases hjk : j = k
            · subst hjk; exact fun h => by have := hT.out.1 h; simp at this
            · exact HI.out j (by omega), HE3.out⟩
          case measure => simp [intOf]; omega
        · cases p2
          · go_wp2
            go_roundw
            case rel => exact ⟨k + 1, by omega, by go_num, fun j hj => by
              by_cases hjk : j = k
              · subst hjk; exact fun h => by have := hT.out.1 h; simp at this
              · exact HI.out j (by omega), HE3.out⟩
            case measure => simp [intOf]; omega
          · cases p3
            · go_wp2
              go_roundw
              case rel => exact ⟨k + 1, by omega, by go_num, fun j hj => by
                by_cases hjk : j = k
                · subst hjk; exact fun h => by have := hT.out.1 h; simp at this
                · exact HI.out j (by omega), HE3.out⟩
              case measure => simp [intOf]; omega
            · have hm : Hid (M.tight s = true) := Lib.hid (Bo.t ⟨k, hT.out.2 ⟨rfl, rfl, rfl⟩⟩)
              go_wp2
              go_ret
              exact ⟨by rw [hm.out]; rfl, HW.out.tr HE3.out⟩
    · obtain rfl : k = len := by omega
      have hm : Hid (M.tight s = false) := Lib.hid (Bo.f fun ⟨j, hj⟩ => by
        by_cases hjk : j < k
        · exact HI.out j hjk hj
        · obtain ⟨x, _, h1, _⟩ := hj
          have := (List.getElem?_eq_some_iff.1 h1).1
          have := hLen.out
          omega)
      go_wp2
      go_ret
      exact ⟨by rw [hm.out]; rfl, HW.out.tr HQ.out⟩
end Sk

