/- Contracts of functions of the given program, and lemmas for them: each theorem states the condition under which it holds. -/
import Derived.Test.YtmkibejcdldjeaaChecked
import Derived.Deep.CutBlock
import Derived.Deep.CutRange
import Derived.Test.YtmkibejcdldjeaaDrawB
import Derived.Test.YtmkibejcdldjeaaClash
import Derived.Test.YtmkibejcdldjeaaClashS
import Derived.Test.YtmkibejcdldjeaaScal
import Derived.Test.YtmkibejcdldjeaaChan
import Derived.Test.YtmkibejcdldjeaaDraw
import Derived.Test.YtmkibejcdldjeaaNums
import Derived.Test.YtmkibejcdldjeaaBuild
namespace Sk
open Go Go.Proofs Go.RowKit
set_option maxHeartbeats 2000000
set_option maxRecDepth 100000
set_option linter.unusedVariables false
set_option linter.unusedSimpArgs false
theorem impl_slotless_1 (v : Value) (x : Slot) (b1 : Nat) (n : Int) (w : World) (h : Rv w v x) (hb1 : b1 < w.heap.size) (hc1 : w.cell? ⟨b1, 0, none⟩ = some (.int .i64 n)) :
    Calls Try.prog 79 #[v, .pointer (some ⟨b1, 0, none⟩)] w fun e w' => e = .returned (.bool (x.Who == n)) ∧ Ext w w' := by
  obtain ⟨rfl, hr0, hr1⟩ := h.openSlot
  clear h
  go_enter Try.func79, Try.ntmps79
  go_wp2
  go_ret
  exact ⟨rfl, (Ext.refl w).alloc _⟩
theorem impl_slotless (v : Value) (s : Setup) (w : World) (h : Rv w v s) (hp : s.Parts.length ≤ 5) :
    Calls Try.prog 45 #[v] w fun e w' => e = .returned (.bool (M.slotless s)) ∧ Ext w w' := by
  obtain ⟨a0, c0, a1, c1, a2, c2, rfl, h0, hl0, h1, hl1, h2, hl2⟩ := h.openSetup
  clear h h0 h1
  go_enter Try.func45, Try.ntmps45
  go_upto_block 0 with (fail)
  refine abs_world (fun W => Ext w W ∧ Bk W w.heap.size [.slice a0 s.Parts.length c0, .slice a1 s.Channels.length c1, .slice a2 s.Slots.length c2] 27) ⟨(Ext.refl _).alloc _, Bk.new _ _ _⟩ ?_
  rintro W ⟨e0, kA⟩
  have HW := Lib.hid e0
  have hA := kA.lt
  have d2 := kA.cell (j := 2) rfl
  clear e0 kA
  go_wp2_with fail
  go_loopw [7] (fun i wr => ∃ k : Nat, k ≤ s.Parts.length ∧ i = .int .i64 k ∧ (∀ n : Nat, n < k → s.Slots.any (fun x => x.Who == n) = true) ∧ Ext W wr) (fun i _ => s.Parts.length - (intOf i).toNat)
  case atStart => exact ⟨0, Nat.zero_le _, rfl, fun n hn => absurd hn (Nat.not_lt_zero _), Ext.refl _⟩
  case round =>
    obtain ⟨k, hk, rfl, hinv, hq⟩ := hrel
    have f2 := (cell_ext hq hA).trans d2
    have HQ := Lib.hid hq
    have HI := Lib.hid hinv
    have hAr := Nat.lt_of_lt_of_le hA hq.sz
    clear hq hinv
    by_cases hkt : k < s.Parts.length
    · have HX := Lib.hid (has_Slot 79 #[.pointer (some ⟨wr.heap.size, 0, none⟩)] (fun x => x.Who == (k : Int)) _ s.Slots _ (h2.out.ext ((HW.out.tr HQ.out).alloc (.cells #[.int .i64 k] 3))) (enter_of Try.func79 (by kernel_rfl) (by kernel_rfl))
        (fun w1 v x he _ hv => impl_slotless_1 v x _ _ w1 hv (by have := he.sz; simp at this; omega) (by rw [(bcell he).1 _ _ (by simp)]; simp)))
      obtain ⟨q, hq⟩ : ∃ q, s.Slots.any (fun x => x.Who == (k : Int)) = q := ⟨_, rfl⟩
      rw [hq] at HX
      replace hq := Lib.hid hq
      cases q
      · have hm : M.slotless s = true := Bo.t ⟨k, hkt, fun x hx e => by
          have := List.any_eq_false.1 hq.out x hx
          simp [e] at this⟩
        replace hm := Lib.hid hm
        go_wp2_with (go_at_call 71; refine HX.out.mono ?_; rintro e w' ⟨rfl, he⟩; have HE := Lib.hid ((HQ.out.alloc _).tr he); clear he)
        go_ret
        exact ⟨by rw [hm.out]; rfl, HW.out.tr HE.out⟩
      · go_wp2_with (go_at_call 71; refine HX.out.mono ?_; rintro e w' ⟨rfl, he⟩; have HE := Lib.hid ((HQ.out.alloc _).tr he); clear he)
        go_roundw
        case rel => exact ⟨k + 1, by omega, by go_num, fun n hn => by
          by_cases hnk : n = k
          · subst hnk; exact hq.out
          · exact HI.out n (by omega), HE.out⟩
        case measure => simp [intOf]; omega
    · obtain rfl : k = s.Parts.length := by omega
      have hm : M.slotless s = false := Bo.f fun ⟨n, hn, hx⟩ => by
        obtain ⟨x, hx1, hx2⟩ := List.any_eq_true.1 (HI.out n hn)
        exact hx x hx1 (by simpa using hx2)
      go_wp2
      go_ret
      exact ⟨by rw [hm]; rfl, HW.out.tr HQ.out⟩
theorem impl_twice_1 (v : Value) (d c : Channel) (b1 : Nat) (w : World) (h : Rv w v d) (hb1 : b1 < w.heap.size) (hc0 : w.cell? ⟨b1, 0, none⟩ = some (.int .i64 c.Kind)) (hc1 : w.cell? ⟨b1, 1, none⟩ = some (.int .i64 c.From)) (hc2 : w.cell? ⟨b1, 2, none⟩ = some (.int .i64 c.To)) :
    Calls Try.prog 80 #[v, .pointer (some ⟨b1, 0, none⟩)] w fun e w' => e = .returned (.bool (M.samec c d)) ∧ Ext w w' := by
  obtain ⟨rfl, hr0, hr1, hr2, hr3⟩ := h.openChannel
  clear h
  cases hA : (c.Kind == d.Kind) <;> cases hB : (c.From == d.From) <;> cases hC : (c.To == d.To)
  all_goals
    have hm := Lib.hid (by unfold M.samec; rw [hA, hB, hC] : M.samec c d = _)
    go_enter Try.func80, Try.ntmps80
    go_wp2
    go_ret
    exact ⟨wp_cond_ret hm.out.symm, (Ext.refl w).alloc _⟩
theorem impl_apart (v : Value) (ps : List Part) (w : World) (h : Rs w v ps) (hp : M.psv ps = true) :
    Calls Try.prog 44 #[v] w fun e w' => e = .returned (.bool (M.apart ps)) ∧ Ext w w' := by
  obtain ⟨a, c, rfl, hl⟩ := h.form
  have hcap : ps.length ≤ c := by obtain ⟨_, _, _, e, h1, _⟩ := id h; cases e; exact h1
  have H := Lib.hid h
  have HP := Lib.hid hp
  clear h hp
  go_enter Try.func44, Try.ntmps44
  go_wp2
  go_loopw [9] (fun i wr => ∃ k : Nat, k ≤ ps.length ∧ i = .int .i64 k ∧ M.Ap ps k ∧ Ext w wr) (fun i _ => ps.length - (intOf i).toNat)
  case atStart => exact ⟨0, Nat.zero_le _, rfl, M.Ap.zero _, Ext.refl _⟩
  case round =>
    obtain ⟨k, hk, rfl, hinv, hq⟩ := hrel
    have HQ := Lib.hid hq
    have HI := Lib.hid hinv
    clear hq hinv
    obtain ⟨wo, rfl⟩ : ∃ wo, wo = wr := ⟨_, rfl⟩
    by_cases hkt : k < ps.length
    · obtain ⟨b, o, y, wa, wc, rfl, hb, hy, hc0, hc1, hr1, hs0, hl3, hv⟩ := (H.out.ext HQ.out).atPart k hkt
      have hkc : k ≤ c := by omega
      go_upto_block 2 with (fail)
      refine abs_world (fun W => Ext wo W ∧ Bk W wo.heap.size [.slice wa y.Windows.length wc, .int .i64 y.Cells] 53) ⟨(Ext.refl _).alloc _, Bk.new _ _ _⟩ ?_
      rintro W ⟨e0, kA⟩
      have HW := Lib.hid e0
      have KA := Lib.hid kA
      clear e0 kA hc0 hc1
      go_wp2_with fail
      go_loopw [18] (fun i wr => ∃ j : Nat, j ≤ k ∧ i = .int .i64 j ∧ (∀ (i : Nat) (x : Part), i < j → ps[i]? = some x → M.clash x.Windows y.Windows = false) ∧ Ext W wr) (fun i _ => k - (intOf i).toNat)
      case atStart => exact ⟨0, Nat.zero_le _, rfl, fun i x hi => absurd hi (Nat.not_lt_zero _), Ext.refl _⟩
      case round =>
        obtain ⟨j, hj, rfl, hinv, hq⟩ := hrel
        have HQ2 := Lib.hid hq
        have HI2 := Lib.hid hinv
        have kB := KA.out.ext hq
        have f0 := kB.cell (j := 0) rfl
        have hBl := kB.lt
        clear hq hinv kB
        obtain ⟨wi, rfl⟩ : ∃ wi, wi = wr := ⟨_, rfl⟩
        by_cases hjt : j < k
        · obtain ⟨b2, o2, x, xa, xc, hb2, hb2l, hx, he0, he1, hx1, hxs, hxl, hxv⟩ := (H.out.ext (HQ.out.tr (HW.out.tr HQ2.out))).atPart j (by omega)
          cases hb2
          have HXW := Lib.hid (M.wsv_all (M.psv_wsv HP.out hx.out)).2
          have HYW := Lib.hid (M.wsv_all (M.psv_wsv HP.out hy.out)).2
          have HYS := Lib.hid (hs0.out.ext (HW.out.tr HQ2.out))
          go_upto_region 7 with (fail)
          refine abs_world (fun W1 => Ext wi W1 ∧ Bk W1 wi.heap.size [.slice xa x.Windows.length xc, .int .i64 x.Cells] 53) ⟨(Ext.refl _).alloc _, Bk.new _ _ _⟩ ?_
          rintro W1 ⟨e1, kC⟩
          have g0 := kC.cell (j := 0) rfl
          have hCl := kC.lt
          have k0 := (cell_ext e1 hBl).trans f0
          have HE1 := Lib.hid e1
          clear e1 kC he0 he1 f0
          obtain ⟨q, hq⟩ : ∃ q, M.clash x.Windows y.Windows = q := ⟨_, rfl⟩
          replace hq := Lib.hid hq
          cases q
          · go_wp2_with (go_at_call 78; refine (impl_clash _ _ y.Windows x.Windows _ (HYS.out.ext HE1.out) (hxs.out.ext HE1.out) HYW.out HXW.out).mono ?_; rintro e w5 ⟨rfl, he⟩; rw [M.clash_comm, hq.out]; have HE5 := Lib.hid (HQ2.out.tr (HE1.out.tr he)); clear he)
            go_roundw
            case rel => exact ⟨j + 1, by omega, by go_num, fun i z hi hz => by
              by_cases hij : i = j
              · subst hij
                rw [hx.out] at hz; cases hz
                exact hq.out
              · exact HI2.out i z (by omega) hz, HE5.out⟩
            case measure => simp [intOf]; omega
          · go_wp2_with (go_at_call 78; refine (impl_clash _ _ y.Windows x.Windows _ (HYS.out.ext HE1.out) (hxs.out.ext HE1.out) HYW.out HXW.out).mono ?_; rintro e w5 ⟨rfl, he⟩; rw [M.clash_comm, hq.out]; have HE5 := Lib.hid (HQ2.out.tr (HE1.out.tr he)); clear he)
            go_ret
            exact ⟨wp_cond_ret (M.apart_f hjt hx.out hy.out hq.out).symm, HQ.out.tr (HW.out.tr HE5.out)⟩
        · obtain rfl : j = k := by omega
          go_wp2
          go_roundw
          case rel => exact ⟨j + 1, by omega, by go_num, HI.out.next hy.out HI2.out, HQ.out.tr (HW.out.tr HQ2.out)⟩
          case measure => simp [intOf]; omega
    · obtain rfl : k = ps.length := by omega
      have HF := Lib.hid (Bo.t HI.out : M.apart ps = true)
      go_wp2
      go_ret
      exact ⟨wp_cond_ret HF.out.symm, HQ.out⟩
theorem impl_twice (v : Value) (s : Setup) (w : World) (h : Rv w v s) :
    Calls Try.prog 47 #[v] w fun e w' => e = .returned (.bool (M.twice s)) ∧ Ext w w' := by
  obtain ⟨a0, c0, a1, c1, a2, c2, rfl, h0, hl0, h1, hl1, h2, hl2⟩ := h.openSetup
  have hcap : s.Channels.length ≤ c1 := by obtain ⟨_, _, _, e, h3, _⟩ := id h1.out; cases e; exact h3
  clear h h0 h2
  go_enter Try.func47, Try.ntmps47
  go_upto_block 0 with (fail)
  refine abs_world (fun W => Ext w W ∧ Bk W w.heap.size [.slice a0 s.Parts.length c0, .slice a1 s.Channels.length c1, .slice a2 s.Slots.length c2] 27) ⟨(Ext.refl _).alloc _, Bk.new _ _ _⟩ ?_
  rintro W ⟨e0, kA⟩
  have HW := Lib.hid e0
  have hA := kA.lt
  have d1 := kA.cell (j := 1) rfl
  clear e0 kA
  go_wp2_with fail
  go_loopw [8] (fun i wr => ∃ k : Nat, k ≤ s.Channels.length ∧ i = .int .i64 k ∧ (∀ (i j : Nat) (c d : Channel), i < j → j < k → s.Channels[i]? = some c → s.Channels[j]? = some d → M.samec c d = false) ∧ Ext W wr) (fun i _ => s.Channels.length - (intOf i).toNat)
  case atStart => exact ⟨0, Nat.zero_le _, rfl, fun i j c d _ h => absurd h (Nat.not_lt_zero _), Ext.refl _⟩
  case round =>
    obtain ⟨k, hk, rfl, hinv, hq⟩ := hrel
    have f1 := (cell_ext hq hA).trans d1
    have HQ := Lib.hid hq
    have HI := Lib.hid hinv
    have hAr := Nat.lt_of_lt_of_le hA hq.sz
    clear hq hinv
    by_cases hkt : k < s.Channels.length
    · obtain ⟨b, o, x, rfl, hb, hx, hc0, hc1, hc2, hc3, hr0, hr1, hr2, hr3, hvx⟩ := (h1.out.ext (HW.out.tr HQ.out)).atChannel k hkt
      have hkc : k ≤ c1 := by omega
      obtain ⟨wo, rfl⟩ : ∃ wo, wo = wr := ⟨_, rfl⟩
      go_upto_region 4 with (fail)
      refine abs_world (fun W1 => Ext wo W1 ∧ Bk W1 wo.heap.size [.int .i64 x.Kind, .int .i64 x.From, .int .i64 x.To, .int .i64 x.Size] 38) ⟨(Ext.refl _).alloc _, Bk.new _ _ _⟩ ?_
      rintro W1 ⟨e1, kC⟩
      have HE1 := Lib.hid e1
      have hB1 := kC.lt
      have g0 := kC.cell (j := 0) rfl
      have g1 := kC.cell (j := 1) rfl
      have g2 := kC.cell (j := 2) rfl
      have f3 := (cell_ext e1 hAr).trans f1
      have hA1 := Nat.lt_of_lt_of_le hAr e1.sz
      have HX := Lib.hid (has_Channel 80 #[.pointer (some ⟨wo.heap.size, 0, none⟩)] (M.samec x) _ (s.Channels.take k) _ ((h1.out.ext ((HW.out.tr HQ.out).tr e1)).take hk) (enter_of Try.func80 (by kernel_rfl) (by kernel_rfl))
        (fun w1 v y he _ hv => impl_twice_1 v y x _ w1 hv (Nat.lt_of_lt_of_le hB1 he.sz) ((cell_ext he hB1).trans g0) ((cell_ext he hB1).trans g1) ((cell_ext he hB1).trans g2)))
      obtain ⟨q, hq⟩ : ∃ q, (s.Channels.take k).any (M.samec x) = q := ⟨_, rfl⟩
      rw [hq] at HX
      replace hq := Lib.hid hq
      clear e1 kC hc0 hc1 hc2 hc3 g0 g1 g2 f1
      cases q
      · go_wp2_with (go_at_call 68; refine HX.out.mono ?_; rintro e w' ⟨rfl, he⟩; have HE := Lib.hid ((HQ.out.tr HE1.out).tr he); clear he)
        go_roundw
        case rel => exact ⟨k + 1, by omega, by go_num, fun i j c d hij hj hc hd => by
          by_cases hjk : j = k
          · subst hjk
            rw [hx.out] at hd; cases hd
            have hm : c ∈ s.Channels.take j := List.mem_take_iff_getElem.2 ⟨i, by have := (List.getElem?_eq_some_iff.1 hc).1; omega, (List.getElem?_eq_some_iff.1 hc).2⟩
            have := List.any_eq_false.1 hq.out c hm
            rw [M.samec_comm]; simpa using this
          · exact HI.out i j c d hij (by omega) hc hd, HE.out⟩
        case measure => simp [intOf]; omega
      · have hm : M.twice s = true := by
          obtain ⟨c, hc, hs⟩ := List.any_eq_true.1 hq.out
          obtain ⟨i, hi, he⟩ := List.mem_take_iff_getElem.1 hc
          exact Bo.t ⟨i, k, c, x, by omega, List.getElem?_eq_some_iff.2 ⟨by omega, he⟩, hx.out, by rw [M.samec_comm]; exact hs⟩
        replace hm := Lib.hid hm
        go_wp2_with (go_at_call 68; refine HX.out.mono ?_; rintro e w' ⟨rfl, he⟩; have HE := Lib.hid ((HQ.out.tr HE1.out).tr he); clear he)
        go_ret
        exact ⟨by rw [hm.out]; rfl, HW.out.tr HE.out⟩
    · obtain rfl : k = s.Channels.length := by omega
      have hm : M.twice s = false := Bo.f fun ⟨i, j, c, d, hij, hc, hd, hs⟩ => by
        rw [HI.out i j c d hij (List.getElem?_eq_some_iff.1 hd).1 hc hd] at hs; cases hs
      replace hm := Lib.hid hm
      go_wp2
      go_ret
      exact ⟨by rw [hm.out]; rfl, HW.out.tr HQ.out⟩
end Sk

