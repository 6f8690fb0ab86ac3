/- Contracts of functions of the given program, and lemmas for them: each theorem states the condition under which it holds. -/
import Derived.Test.YtmkibejcdldjeaaChecked
import Derived.Deep.CutBlock
import Derived.Deep.CutRange
import Derived.Test.YtmkibejcdldjeaaFaultK
import Derived.Test.YtmkibejcdldjeaaDrawB
import Derived.Test.YtmkibejcdldjeaaFaultJ
import Derived.Test.YtmkibejcdldjeaaDrawSF
import Derived.Test.YtmkibejcdldjeaaClashS
import Derived.Test.YtmkibejcdldjeaaFoc
namespace Sk
open Go Go.Proofs Go.RowKit
set_option maxHeartbeats 4000000
set_option maxRecDepth 100000
set_option linter.unusedVariables false
set_option linter.unusedSimpArgs false
/-- A channel of the first k, or the one of number k, has the same ends as one before it. -/
def M.tw2 (cs : List Channel) (k n : Nat) : Prop := ∃ (i j : Nat) (c d : Channel), i < j ∧ (j < k ∨ (j = k ∧ i < n)) ∧ cs[i]? = some c ∧ cs[j]? = some d ∧ M.samec c d = true
theorem M.tw2_zero {cs : List Channel} : ¬ M.tw2 cs 0 0 := fun ⟨i, j, _, _, h1, h2, _⟩ => by omega
theorem M.tw2_row {cs : List Channel} {k : Nat} : M.tw2 cs k k ↔ M.tw2 cs (k + 1) 0 :=
  ⟨fun ⟨i, j, c, d, h1, h2, h3⟩ => ⟨i, j, c, d, h1, by omega, h3⟩, fun ⟨i, j, c, d, h1, h2, h3⟩ => ⟨i, j, c, d, h1, by omega, h3⟩⟩
theorem M.tw2_next {cs : List Channel} {k n : Nat} {c d : Channel} (h : n < k) (hc : cs[n]? = some c) (hd : cs[k]? = some d) : M.tw2 cs k (n + 1) ↔ (M.tw2 cs k n ∨ M.samec c d = true) := by
  constructor
  · rintro ⟨i, j, c', d', h1, h2, h3, h4, h5⟩
    by_cases he : j = k ∧ i = n
    · obtain ⟨rfl, rfl⟩ := he
      rw [hc] at h3; cases h3
      rw [hd] at h4; cases h4
      exact .inr h5
    · exact .inl ⟨i, j, c', d', h1, by omega, h3, h4, h5⟩
  · rintro (⟨i, j, c', d', h1, h2, h3⟩ | h5)
    · exact ⟨i, j, c', d', h1, by omega, h3⟩
    · exact ⟨n, k, c, d, h, by omega, hc, hd, h5⟩
theorem M.tw2_all {s : Setup} : M.tw2 s.Channels s.Channels.length 0 ↔ ∃ (i j : Nat) (c d : Channel), i < j ∧ s.Channels[i]? = some c ∧ s.Channels[j]? = some d ∧ M.samec c d = true :=
  ⟨fun ⟨i, j, c, d, h1, _, h3, h4, h5⟩ => ⟨i, j, c, d, h1, h3, h4, h5⟩, fun ⟨i, j, c, d, h1, h3, h4, h5⟩ => ⟨i, j, c, d, h1, .inl (List.getElem?_eq_some_iff.1 h4).1, h3, h4, h5⟩⟩
theorem spec_SetupFaults (v : Value) (s : Setup) (w : World) (h : Rv w v s) :
    Calls Try.prog 19 #[v] w fun e w' => ∃ v', e = .returned v' ∧ Oo 3 w.heap.size w' v' (M.faults s) ∧ Ext w w' := by
  have H := Lib.hid h
  obtain ⟨a0, c0, a1, c1, a2, c2, rfl, h0, hl0, h1, hl1, h2, hl2⟩ := h.openSetup
  clear h
  go_enter Try.func19, Try.ntmps19
  go_upto_region 1 with (fail)
  refine abs_world (fun W => Ext w W ∧ Bk W w.heap.size [.slice a0 s.Parts.length c0, .slice a1 s.Channels.length c1, .slice a2 s.Slots.length c2] 27) ⟨(Ext.refl _).alloc _, Bk.new _ _ _⟩ ?_
  rintro W ⟨e0, kA⟩
  have HW := Lib.hid e0
  have KA := Lib.hid kA
  have x0 := kA.cell (j := 0) rfl
  have x1 := kA.cell (j := 1) rfl
  have x2 := kA.cell (j := 2) rfl
  have hA := kA.lt
  have hsW := e0.sz
  clear e0 kA
  go_upto_region 2 with (fail)
  refine abs_world (fun W0 => Ext W W0 ∧ Oo (α := Int) 3 W.heap.size W0 (.slice (some ⟨W.heap.size, 0, none⟩) 0 0) []) ⟨(Ext.refl _).alloc _, Oo.lit0 _ _⟩ ?_
  rintro W0 ⟨e0, ho0⟩
  have hs0 := e0.sz
  have hA0 := Nat.lt_of_lt_of_le hA hs0
  have z0 := (cell_ext e0 hA).trans x0
  have z1 := (cell_ext e0 hA).trans x1
  have z2 := (cell_ext e0 hA).trans x2
  have HE0 := Lib.hid e0
  have HO := Lib.hid ho0
  clear e0 ho0
  cases g : M.setv s
  · have hm : Hid (M.faults s = []) := Lib.hid (M.faults_f g)
    replace g := Lib.hid g
    go_wp2_with (go_at_call 16; refine (spec_SetupValid _ s _ (H.out.ext (HW.out.tr HE0.out))).mono ?_; rintro e w1 ⟨rfl, he1⟩; rw [g.out]; have E1 := Lib.hid he1; clear he1)
    go_ret
    exact ⟨_, rfl, by rw [hm.out]; exact (HO.out.ext E1.out).mono hsW, HW.out.tr (HE0.out.tr E1.out)⟩
  have hm := Lib.hid (M.faults_t g)
  have hp5 := M.setv_parts g
  have h12 := M.setv_slots g
  have h8 := M.setv_chans g
  have hpv : M.psv s.Parts = true := by unfold M.setv at g; exact (Bool.and_eq_true_iff.1 g).1
  have hsv : M.ssv s.Slots s.Parts.length = true := by unfold M.setv at g; exact (Bool.and_eq_true_iff.1 (Bool.and_eq_true_iff.1 g).2).2
  replace g := Lib.hid g
  replace hpv := Lib.hid hpv
  replace hsv := Lib.hid hsv
  go_upto_region 4 with (go_at_call 16; refine (spec_SetupValid _ s _ (H.out.ext (HW.out.tr HE0.out))).mono ?_; rintro e w1 ⟨rfl, he1⟩; rw [g.out]; have E1 := Lib.hid (HE0.out.tr he1); have hA1 := Nat.lt_of_lt_of_le hA0 he1.sz; have y0 := (cell_ext he1 hA0).trans z0; have hs1 := he1.sz; replace HO := Lib.hid (HO.out.ext he1); clear he1)
  obtain ⟨ap, hap⟩ : ∃ p, M.apart s.Parts = p := ⟨_, rfl⟩
  obtain ⟨sl, hsl⟩ : ∃ p, M.slotless s = p := ⟨_, rfl⟩
  obtain ⟨ti, hti⟩ : ∃ p, M.tight s = p := ⟨_, rfl⟩
  obtain ⟨tw, htw⟩ : ∃ p, M.twice s = p := ⟨_, rfl⟩
  rw [hap, hsl, hti, htw] at hm
  replace hap := Lib.hid hap
  replace hsl := Lib.hid hsl
  replace hti := Lib.hid hti
  replace htw := Lib.hid htw
  go_upto_if 23 with (go_at_call 48; refine (spec_PartsApart _ s.Parts _ (h0.out.ext (HW.out.tr E1.out)) hpv.out).mono ?_; rintro e w2 ⟨rfl, he⟩; rw [hap.out]; have HE := Lib.hid (E1.out.tr he); replace HO := Lib.hid (HO.out.ext he); have hsz := HE.out.sz; clear he)
  have HLN : Hid (([] : List Int).length + 1 ≤ 4294967296) := Lib.hid (by simp)
  go_cut [3] from 6 (fun v3 wc => ∃ (ao : Option Addr) (no co : Nat), v3 = .slice ao no co ∧ Oo 3 W.heap.size wc (.slice ao no co) (M.flt (!ap) 1) ∧ Ext W wc)
  case first =>
    cases ap
    · go_wp2_with (at_builtin; refine wpl_appO (u := w2) (α := Int) rfl _ _ 33 rfl 3 Try.underlying33 elInt (v := .slice (some ⟨W.heap.size, 0, none⟩) 0 0) (ys := [1]) rfl HO.out ((Ext.refl _).alloc _) hsz rfl rfl (CI.row ⟨by simp, rng_of (by omega) (by omega), trivial⟩) (by simp) (Own.nil _ _) (by have := HLN.out; omega) ?_; intro v8 w8 hO8 hg8; have HO8 := Lib.hid hO8; have HE8 := Lib.hid (Ext.grown (HE.out.alloc _) hg8 (fun k hk => by simp only [Value.ownBlock, Option.some.injEq] at hk; omega)); obtain ⟨p8, n8, q8, rfl⟩ := hO8.sh; clear hO8 hg8)
      go_meet
      exact ⟨_, _, _, rfl, by simpa [M.flt] using HO8.out, HE8.out⟩
    · go_wp2
      go_meet
      exact ⟨_, _, _, rfl, by simpa [M.flt] using HO.out, HE.out⟩
  case rest =>
    clear HO E1 y0 hA1 hs1 HE hsz HLN z0 z1 z2 HE0 hs0 hA0
    obtain ⟨ao, no, co, rfl, ho, he⟩ := hcut
    have HO := Lib.hid ho
    have HE := Lib.hid he
    clear ho he
    go_wp2_with fail
    go_loopw [4, 5] (fun o i wr => ∃ (k : Nat) (ob : Bool), k ≤ s.Parts.length ∧ i = .int .i64 k ∧ o = .bool ob ∧ (ob = true ↔ ∃ m : Nat, m < k ∧ ∀ x ∈ s.Slots, x.Who ≠ (m : Int)) ∧ Ext wc wr) (fun _ i _ => s.Parts.length - (intOf i).toNat)
    case atStart => exact ⟨0, false, Nat.zero_le _, rfl, rfl, ⟨fun h => (by cases h), fun ⟨m, h, _⟩ => absurd h (Nat.not_lt_zero _)⟩, Ext.refl _⟩
    case round =>
      obtain ⟨k, ob, hk, rfl, rfl, hiff, hq⟩ := hrel
      have HQ := Lib.hid (HE.out.tr hq)
      have HQ0 := Lib.hid hq
      have HI := Lib.hid hiff
      have f0 := (cell_ext (HE.out.tr hq) hA).trans x0
      have f2 := (cell_ext (HE.out.tr hq) hA).trans x2
      have hAr := Nat.lt_of_lt_of_le hA (HE.out.tr hq).sz
      clear hq hiff
      by_cases hkt : k < s.Parts.length
      · cases ob
        · go_upto_region 9 with (go_at_call 49; refine (spec_NextOwn _ s.Slots s.Parts.length k _ (h2.out.ext (HW.out.tr HQ.out)) hsv.out (by omega) (by omega)).mono ?_; rintro e w5 ⟨⟨z, rfl, hz⟩, he⟩; have HZ := Lib.hid hz; have HE5 := Lib.hid (HQ0.out.tr he); clear hz he)
          by_cases hz0 : z < 0
          · have hd : decide (z < 0) = true := decide_eq_true hz0
            go_wp2
            go_roundw
            case rel => exact ⟨k + 1, true, by omega, by go_num, by simp [hd], ⟨fun _ => ⟨k, by omega, HZ.out.1 hz0⟩, fun _ => rfl⟩, HE5.out⟩
            case measure => simp [intOf]; omega
          · have hd : decide (z < 0) = false := decide_eq_false hz0
            go_wp2
            go_roundw
            case rel => exact ⟨k + 1, false, by omega, by go_num, by simp [hd], ⟨fun h => (by cases h), fun ⟨m, hm, hx⟩ => by
              by_cases hmk : m = k
              · subst hmk; exact absurd (HZ.out.2 hx) hz0
              · exact HI.out.2 ⟨m, by omega, hx⟩⟩, HE5.out⟩
            case measure => simp [intOf]; omega
        · go_wp2
          go_roundw
          case rel => exact ⟨k + 1, true, by omega, by go_num, rfl, ⟨fun _ => by obtain ⟨m, hm, h⟩ := HI.out.1 rfl; exact ⟨m, by omega, h⟩, fun _ => rfl⟩, HQ0.out⟩
          case measure => simp [intOf]; omega
      · obtain rfl : k = s.Parts.length := by omega
        obtain rfl : sl = ob := by
          have : ob = M.slotless s := Bool.eq_iff_iff.2 (HI.out.trans Bo.iff.symm)
          rw [this, hsl.out]
        replace HO := Lib.hid (HO.out.ext HQ0.out)
        have hsz := HQ.out.sz
        obtain ⟨wp, rfl⟩ : ∃ wp, wp = wr := ⟨_, rfl⟩
        clear HI HE HQ0
        have hlen := M.flt_len (!ap) 1
        go_upto_if 45 with (fail)
        go_cut [3] from 13 (fun v3 wc => ∃ (ao : Option Addr) (no co : Nat), v3 = .slice ao no co ∧ Oo 3 W.heap.size wc (.slice ao no co) (M.flt (!ap) 1 ++ M.flt sl 2) ∧ Ext W wc)
        case first =>
          cases sl
          · go_wp2
            go_meet
            exact ⟨_, _, _, rfl, by simpa [M.flt] using HO.out, HQ.out⟩
          · go_wp2_with (at_builtin; refine wpl_appO (u := wp) (α := Int) rfl _ _ 33 rfl 3 Try.underlying33 elInt (v := .slice ao no co) (ys := [2]) rfl HO.out ((Ext.refl _).alloc _) hsz rfl rfl (CI.row ⟨by simp, rng_of (by omega) (by omega), trivial⟩) (by simp) (Own.nil _ _) (by omega) ?_; intro v8 w8 hO8 hg8; have HO8 := Lib.hid hO8; have HE8 := Lib.hid (Ext.grown (HQ.out.alloc _) hg8 HO.out.own); obtain ⟨p8, n8, q8, rfl⟩ := hO8.sh; clear hO8 hg8)
            go_meet
            exact ⟨_, _, _, rfl, by simpa [M.flt] using HO8.out, HE8.out⟩
        case rest =>
          clear HO HQ f0 f2 hAr hsz hlen
          obtain ⟨ao, no, co, rfl, ho, he⟩ := hcut
          have HO := Lib.hid ho
          have HE := Lib.hid he
          clear ho he
          generalize hLen : s.Slots.length = len at *
          replace hLen := Lib.hid hLen
          go_wp2_with fail
          go_loopw [6, 7] (fun o i wr => ∃ (k : Nat) (ob : Bool), k ≤ len ∧ i = .int .i64 k ∧ o = .bool ob ∧ (ob = true ↔ ∃ j : Nat, j < k ∧ M.tightAt s.Slots j) ∧ Ext wc wr) (fun _ i _ => len - (intOf i).toNat)
          case atStart => exact ⟨0, false, Nat.zero_le _, rfl, rfl, ⟨fun h => (by cases h), fun ⟨m, h, _⟩ => absurd h (Nat.not_lt_zero _)⟩, Ext.refl _⟩
          case round =>
            obtain ⟨k, ob, hk, rfl, rfl, hiff, hq⟩ := hrel
            have HQ := Lib.hid (HE.out.tr hq)
            have HQ0 := Lib.hid hq
            have HI := Lib.hid hiff
            have f2 := (cell_ext (HE.out.tr hq) hA).trans x2
            have hAr := Nat.lt_of_lt_of_le hA (HE.out.tr hq).sz
            clear hq hiff
            by_cases hkt : k < len
            · obtain ⟨b, o, x, rfl, hb, hx, hc0, hc1, hr0, hr1, hvx⟩ := (h2.out.ext (HW.out.tr HQ.out)).atSlot k (by rw [hLen.out]; exact hkt)
              have hI : (k + 1) % len < len := Nat.mod_lt _ (by omega)
              have hm1 : ((k : Int) + 1).tmod (len : Int) = (((k + 1) % len : Nat) : Int) := by
                have := (Int.ofNat_tmod (k + 1) len).symm
                rw [← this]; congr 1
              obtain ⟨b2, o2, y, hb2, hb2l, hy, he0, he1, hs0, hs1, hvy⟩ := (h2.out.ext (HW.out.tr HQ.out)).atSlot ((k + 1) % len) (by rw [hLen.out]; exact hI)
              cases hb2
              have HTA := Lib.hid (M.tightAt_iff hx.out (by rw [hLen.out]; exact hy.out))
              generalize (k + 1) % len = I at *
              have hlz : (len : Int) ≠ 0 := by omega
              have hw1 : IntKind.i64.wrap ((k : Int) + 1) = (k : Int) + 1 := by rw [IntKind.wrap_i64]; omega
              go_upto_region 18 with (fail)
              go_quiet (fail)
              obtain ⟨p1, hp1⟩ : ∃ p, decide (0 ≤ x.Who) = p := ⟨_, rfl⟩
              obtain ⟨p2, hp2⟩ : ∃ p, decide (0 ≤ y.Who) = p := ⟨_, rfl⟩
              obtain ⟨p3, hp3⟩ : ∃ p, (x.Who != y.Who) = p := ⟨_, rfl⟩
              have HT : Hid (M.tightAt s.Slots k ↔ p1 = true ∧ p2 = true ∧ p3 = true) := Lib.hid (by rw [← hp1, ← hp2, ← hp3]; exact HTA.out)
              have HQ3 := Lib.hid (HQ0.out.drewN nq)
              cases ob
              · cases p1
                · go_wp2
                  go_roundw
                  case rel => exact ⟨k + 1, false, by omega, by go_num, rfl, ⟨fun h => (by cases h), fun ⟨j, hj, hx⟩ => (if hjk : j = k then absurd (hjk ▸ hx) (fun h => by have := HT.out.1 h; simp at this) else HI.out.2 ⟨j, by omega, hx⟩)⟩, HQ3.out⟩
                  case measure => simp [intOf]; omega
                · cases p2
                  · go_wp2
                    go_roundw
                    case rel => exact ⟨k + 1, false, by omega, by go_num, rfl, ⟨fun h => (by cases h), fun ⟨j, hj, hx⟩ => (if hjk : j = k then absurd (hjk ▸ hx) (fun h => by have := HT.out.1 h; simp at this) else HI.out.2 ⟨j, by omega, hx⟩)⟩, HQ3.out⟩
                    case measure => simp [intOf]; omega
                  · cases p3
                    · go_wp2
                      go_roundw
                      case rel => exact ⟨k + 1, false, by omega, by go_num, rfl, ⟨fun h => (by cases h), fun ⟨j, hj, hx⟩ => (if hjk : j = k then absurd (hjk ▸ hx) (fun h => by have := HT.out.1 h; simp at this) else HI.out.2 ⟨j, by omega, hx⟩)⟩, HQ3.out⟩
                      case measure => simp [intOf]; omega
                    · go_wp2
                      go_roundw
                      case rel => exact ⟨k + 1, true, by omega, by go_num, rfl, ⟨fun _ => ⟨k, by omega, HT.out.2 ⟨rfl, rfl, rfl⟩⟩, fun _ => rfl⟩, HQ3.out⟩
                      case measure => simp [intOf]; omega
              · go_wp2
                go_roundw
                case rel => exact ⟨k + 1, true, by omega, by go_num, rfl, ⟨fun _ => (by obtain ⟨j, hj, h⟩ := HI.out.1 rfl; exact ⟨j, by omega, h⟩), fun _ => rfl⟩, HQ3.out⟩
                case measure => simp [intOf]; omega
            · obtain rfl : k = len := by omega
              obtain rfl : ti = ob := by
                have : ob = M.tight s := Bool.eq_iff_iff.2 (HI.out.trans (Iff.trans ⟨fun ⟨j, _, h⟩ => ⟨j, h⟩, fun ⟨j, h⟩ => ⟨j, by
                  obtain ⟨_, _, h1, _⟩ := h
                  have := (List.getElem?_eq_some_iff.1 h1).1
                  rw [hLen.out] at this; exact this, h⟩⟩ Bo.iff.symm))
                rw [this, hti.out]
              replace HO := Lib.hid (HO.out.ext HQ0.out)
              have hsz := HQ.out.sz
              obtain ⟨wp, rfl⟩ : ∃ wp, wp = wr := ⟨_, rfl⟩
              clear HI HE HQ0
              have hlen := M.flt_len (!ap) 1
              have hlen2 := M.flt_len sl 2
              go_upto_if 87 with (fail)
              go_cut [3] from 22 (fun v3 wc => ∃ (ao : Option Addr) (no co : Nat), v3 = .slice ao no co ∧ Oo 3 W.heap.size wc (.slice ao no co) (M.flt (!ap) 1 ++ M.flt sl 2 ++ M.flt ti 3) ∧ Ext W wc)
              case first =>
                cases ti
                · go_wp2
                  go_meet
                  exact ⟨_, _, _, rfl, by simpa [M.flt] using HO.out, HQ.out⟩
                · go_wp2_with (at_builtin; refine wpl_appO (u := wp) (α := Int) rfl _ _ 33 rfl 3 Try.underlying33 elInt (v := .slice ao no co) (ys := [3]) rfl HO.out ((Ext.refl _).alloc _) hsz rfl rfl (CI.row ⟨by simp, rng_of (by omega) (by omega), trivial⟩) (by simp) (Own.nil _ _) (by simp only [List.length_append]; omega) ?_; intro v8 w8 hO8 hg8; have HO8 := Lib.hid hO8; have HE8 := Lib.hid (Ext.grown (HQ.out.alloc _) hg8 HO.out.own); obtain ⟨p8, n8, q8, rfl⟩ := hO8.sh; clear hO8 hg8)
                  go_meet
                  exact ⟨_, _, _, rfl, by simpa [M.flt] using HO8.out, HE8.out⟩
              case rest =>
                clear HO HQ hsz hlen hlen2 f2 hAr
                obtain ⟨ao, no, co, rfl, ho, he⟩ := hcut
                have HO := Lib.hid ho
                have HE := Lib.hid he
                clear ho he
                go_wp2_with fail
                go_loopw [10, 11] (fun o i wr => ∃ (k : Nat) (ob : Bool), k ≤ s.Channels.length ∧ i = .int .i64 k ∧ o = .bool ob ∧ (ob = true ↔ M.tw2 s.Channels k 0) ∧ Ext wc wr) (fun _ i _ => s.Channels.length - (intOf i).toNat)
                case atStart => exact ⟨0, false, Nat.zero_le _, rfl, rfl, ⟨fun h => (by cases h), fun h => absurd h M.tw2_zero⟩, Ext.refl _⟩
                case round =>
                  obtain ⟨k, ob, hk, rfl, rfl, hiff, hq⟩ := hrel
                  have HQ := Lib.hid (HE.out.tr hq)
                  have HQ0 := Lib.hid hq
                  have HI := Lib.hid hiff
                  have f1 := (cell_ext (HE.out.tr hq) hA).trans x1
                  have hAr := Nat.lt_of_lt_of_le hA (HE.out.tr hq).sz
                  clear hq hiff
                  by_cases hkt : k < s.Channels.length
                  · obtain ⟨wo, rfl⟩ : ∃ wo, wo = wr := ⟨_, rfl⟩
                    obtain ⟨b, o, d, rfl, hb, hd, hc0, hc1, hc2, hc3, hr0, hr1, hr2, hr3, hvx⟩ := (h1.out.ext (HW.out.tr HQ.out)).atChannel k hkt
                    go_wp2
                    go_loopw [10, 12] (fun o i wr => ∃ (j : Nat) (ob : Bool), j ≤ k ∧ i = .int .i64 j ∧ o = .bool ob ∧ (ob = true ↔ M.tw2 s.Channels k j) ∧ Ext wo wr) (fun _ i _ => k - (intOf i).toNat)
                    case atStart => exact ⟨0, _, Nat.zero_le _, rfl, rfl, HI.out, Ext.refl _⟩
                    case round =>
                      clear HI
                      obtain ⟨j, ob, hj, rfl, rfl, hiff, hq⟩ := hrel
                      have HQ2 := Lib.hid hq
                      have HI := Lib.hid hiff
                      have g1 := (cell_ext hq hAr).trans f1
                      have hAi := Nat.lt_of_lt_of_le hAr hq.sz
                      have e0 := (cell_ext hq hb).trans hc0
                      have e1 := (cell_ext hq hb).trans hc1
                      have e2 := (cell_ext hq hb).trans hc2
                      have e3 := (cell_ext hq hb).trans hc3
                      have hbi := Nat.lt_of_lt_of_le hb hq.sz
                      clear hq hiff
                      obtain ⟨wi, rfl⟩ : ∃ wi, wi = wr := ⟨_, rfl⟩
                      by_cases hjt : j < k
                      · have hjl : j < s.Channels.length := by omega
                        obtain ⟨b2, o2, c, hb2, hb2l, hc, he0, he1, he2, he3, hs0, hs1, hs2, hs3, hvy⟩ := (h1.out.ext (HW.out.tr (HQ.out.tr HQ2.out))).atChannel j hjl
                        cases hb2
                        have HNX := Lib.hid (M.tw2_next hjt hc.out hd.out)
                        go_upto_region 31 with (fail)
                        refine abs_world (fun u => Ext wi u ∧ Bk u wi.heap.size [.int .i64 c.Kind, .int .i64 c.From, .int .i64 c.To, .int .i64 c.Size] 38 ∧ Bk u (wi.heap.size + 1) [.int .i64 d.Kind, .int .i64 d.From, .int .i64 d.To, .int .i64 d.Size] 38) ⟨((Ext.refl _).alloc _).alloc _, (Bk.new _ _ _).alc _, by
                          have := Bk.new (wi.alloc (.cells #[.int .i64 c.Kind, .int .i64 c.From, .int .i64 c.To, .int .i64 c.Size] 38)) [.int .i64 d.Kind, .int .i64 d.From, .int .i64 d.To, .int .i64 d.Size] 38
                          simpa using this⟩ ?_
                        rintro u ⟨eu, k1, k2⟩
                        have m0 := k1.cell (j := 0) rfl
                        have m1 := k1.cell (j := 1) rfl
                        have m2 := k1.cell (j := 2) rfl
                        have n0 := k2.cell (j := 0) rfl
                        have n1 := k2.cell (j := 1) rfl
                        have n2 := k2.cell (j := 2) rfl
                        have l1 := k1.lt
                        have l2 := k2.lt
                        have HQ3 := Lib.hid (HQ2.out.tr eu)
                        clear eu k1 k2 e0 e1 e2 e3 he0 he1 he2 he3 g1
                        cases ob
                        · cases p1 : (c.Kind == d.Kind)
                          · have HSM : Hid (M.samec c d = false) := Lib.hid (by unfold M.samec; rw [p1]; rfl)
                            go_wp2
                            go_roundw
                            case rel => exact ⟨j + 1, false, by omega, by go_num, rfl, ⟨fun h => (by cases h), fun h => (HNX.out.1 h).elim (fun h => HI.out.2 h) (fun h => by rw [HSM.out] at h; cases h)⟩, HQ3.out⟩
                            case measure => simp [intOf]; omega
                          · cases p2 : (c.From == d.From)
                            · have HSM : Hid (M.samec c d = false) := Lib.hid (by unfold M.samec; rw [p1, p2]; rfl)
                              go_wp2
                              go_roundw
                              case rel => exact ⟨j + 1, false, by omega, by go_num, rfl, ⟨fun h => (by cases h), fun h => (HNX.out.1 h).elim (fun h => HI.out.2 h) (fun h => by rw [HSM.out] at h; cases h)⟩, HQ3.out⟩
                              case measure => simp [intOf]; omega
                            · cases p3 : (c.To == d.To)
                              · have HSM : Hid (M.samec c d = false) := Lib.hid (by unfold M.samec; rw [p1, p2, p3]; rfl)
                                go_wp2
                                go_roundw
                                case rel => exact ⟨j + 1, false, by omega, by go_num, rfl, ⟨fun h => (by cases h), fun h => (HNX.out.1 h).elim (fun h => HI.out.2 h) (fun h => by rw [HSM.out] at h; cases h)⟩, HQ3.out⟩
                                case measure => simp [intOf]; omega
                              · have HSM : Hid (M.samec c d = true) := Lib.hid (by unfold M.samec; rw [p1, p2, p3]; rfl)
                                go_wp2
                                go_roundw
                                case rel => exact ⟨j + 1, true, by omega, by go_num, rfl, ⟨fun _ => HNX.out.2 (.inr HSM.out), fun _ => rfl⟩, HQ3.out⟩
                                case measure => simp [intOf]; omega
                        · go_wp2
                          go_roundw
                          case rel => exact ⟨j + 1, true, by omega, by go_num, rfl, ⟨fun _ => HNX.out.2 (.inl (HI.out.1 rfl)), fun _ => rfl⟩, HQ3.out⟩
                          case measure => simp [intOf]; omega
                      · obtain rfl : j = k := by omega
                        go_wp2
                        go_roundw
                        case rel => exact ⟨j + 1, _, by omega, by go_num, rfl, HI.out.trans M.tw2_row, HQ0.out.tr HQ2.out⟩
                        case measure => simp [intOf]; omega
                  · obtain rfl : k = s.Channels.length := by omega
                    obtain rfl : tw = ob := by
                      have : ob = M.twice s := Bool.eq_iff_iff.2 (HI.out.trans (M.tw2_all.trans Bo.iff.symm))
                      rw [this, htw.out]
                    replace HO := Lib.hid (HO.out.ext HQ0.out)
                    have hsz := HQ.out.sz
                    obtain ⟨wp, rfl⟩ : ∃ wp, wp = wr := ⟨_, rfl⟩
                    clear HI HE HQ0
                    have hlen := M.flt_len (!ap) 1
                    have hlen2 := M.flt_len sl 2
                    have hlen3 := M.flt_len ti 3
                    cases tw
                    · go_wp2
                      go_ret
                      exact ⟨_, rfl, by rw [hm.out]; simpa [M.flt] using HO.out.mono hsW, HW.out.tr HQ.out⟩
                    · go_wp2_with (at_builtin; refine wpl_appO (u := wp) (α := Int) rfl _ _ 33 rfl 3 Try.underlying33 elInt (v := .slice ao no co) (ys := [4]) rfl HO.out ((Ext.refl _).alloc _) hsz rfl rfl (CI.row ⟨by simp, rng_of (by omega) (by omega), trivial⟩) (by simp) (Own.nil _ _) (by simp only [List.length_append]; omega) ?_; intro v8 w8 hO8 hg8; have HO8 := Lib.hid hO8; have HE8 := Lib.hid (Ext.grown (HQ.out.alloc _) hg8 HO.out.own); obtain ⟨p8, n8, q8, rfl⟩ := hO8.sh; clear hO8 hg8)
                      go_ret
                      exact ⟨_, rfl, by rw [hm.out]; simpa [M.flt] using HO8.out.mono hsW, HW.out.tr HE8.out⟩
end Sk

