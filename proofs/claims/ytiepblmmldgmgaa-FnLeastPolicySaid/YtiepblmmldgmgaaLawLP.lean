/- Contracts of functions of the given program, and lemmas for them: each theorem states the condition under which it holds. -/
import Derived.Test.YtiepblmmldgmgaaChecked
import Derived.Deep.CutBlock
import Derived.Deep.CutRange
import Derived.Test.YtiepblmmldgmgaaSameP
import Derived.Test.YtiepblmmldgmgaaFlowL
import Derived.Test.YtiepblmmldgmgaaDrawSt
import Derived.Test.YtiepblmmldgmgaaLeastS
import Derived.Test.YtiepblmmldgmgaaGaps
import Derived.Test.YtiepblmmldgmgaaDrawPt
import Derived.Test.YtiepblmmldgmgaaNums
import Derived.Test.YtiepblmmldgmgaaTop
namespace Sk
open Go Go.Proofs Go.RowKit
set_option maxHeartbeats 1600000
set_option maxRecDepth 100000
set_option linter.unusedVariables false
set_option linter.unusedSimpArgs false
theorem rs_one {w : World} {T : TypeId} {z : Int} (h : rng z) : Rs (w.alloc (.cells #[.int .i64 z] T)) (.slice (some ⟨w.heap.size, 0, none⟩) 1 1) [z] :=
  ⟨[w.heap.size], _, 1, rfl, by simp, by unfold maxLen; omega, .inr ⟨by simp, w.heap.size, 0, [], rfl, rfl, Row.lit1 (cs := [.int .i64 z]) ⟨rfl, h, rfl⟩⟩⟩
theorem Rs.row {α : Type} [GT α] [Fl α] {w : World} {a : Option Addr} {n c : Nat} {xs : List α} (h : Rs w (.slice a n c) xs) (hx : 0 < xs.length) : ∃ g o, a = some ⟨g, o, none⟩ ∧ n = xs.length ∧ Row w g o xs [] := by
  obtain ⟨F, a', c', he, hl, hc, hr⟩ := h
  cases he
  rcases hr with ⟨rfl, _⟩ | ⟨_, b, o, F', rfl, rfl, hr⟩
  · cases hx
  · have := hr.fl
    subst this
    exact ⟨b, o, rfl, rfl, hr⟩
theorem Os.own1 {α : Type} [GT α] [Fl α] {e : TypeId} {L : Nat} {w : World} {v : Value} {xs : List α} (h : Oo e L w v xs) : ∃ F, GT.enc w [v] xs F ∧ Own L w F := by
  obtain ⟨F, h1, h2⟩ := h.os
  exact ⟨F, ⟨v, rfl, h1⟩, h2⟩
theorem lawLeastPolicy (v : Value) (xs : List By) (w : World) (h : Rs w v xs) :
    Calls Try.prog 5 #[v] w fun e w' => e = .returned (.bool true) ∧ Ext w w' := by
  obtain ⟨a, c, rfl, hl⟩ := h.form
  have H := Lib.hid h
  clear h
  by_cases hx : xs.length ≤ 1048576
  · go_enter Try.func5, Try.ntmps5
    go_upto_region 4 with (go_at_call 18; refine (spec_DrawLeastPolicy _ _ _ H.out).mono ?_; rintro e w1 ⟨v', s, rfl, hp, hds, he⟩; obtain ⟨a0, c0, a1, c1, a2, c2, rfl, hl0, hl1, hl2⟩ := hp.openS; have HP := Lib.hid hp.rv; have HE := Lib.hid he; have HDS := Lib.hid hds; clear hp he hds)
    refine abs_world (fun W1 => Ext w1 W1 ∧ Bk W1 w1.heap.size [.slice a0 s.Parts.length c0, .slice a1 s.Channels.length c1, .slice a2 s.Slots.length c2] 27) ⟨(Ext.refl _).alloc _, Bk.new _ _ _⟩ ?_
    rintro W1 ⟨e1, kA⟩
    have HE1 := Lib.hid (HE.out.tr e1)
    have KA := Lib.hid kA
    have hA := kA.lt
    have d0 := kA.cell (j := 0) rfl
    have d1 := kA.cell (j := 1) rfl
    have d2 := kA.cell (j := 2) rfl
    replace HP := Lib.hid (HP.out.ext e1)
    clear e1 kA HE
    have htot : GT.tot s ≤ 1048576 := Nat.le_trans HDS.out.tot (by omega)
    go_upto_region 5 with (go_at_call 19; refine (impl_LeastPolicy _ s _ HP.out).mono ?_; rintro e w2 ⟨v2, rfl, ho, he⟩; obtain ⟨p2, q2, rfl, hq2⟩ := ho.rs.form; have HO := Lib.hid ho.rs; have HE2 := Lib.hid he; have KA2 := KA.out.ext he; have b0 := KA2.cell (j := 0) rfl; have b1 := KA2.cell (j := 1) rfl; have b2 := KA2.cell (j := 2) rfl; have hA2 := KA2.lt; clear ho he)
    obtain ⟨P, hP⟩ : ∃ P, M.leastP s = P := ⟨_, rfl⟩
    rw [hP] at HO hq2
    simp only [hP]
    go_upto_if 22 with (first
      | (go_at_call 21; refine (spec_LeastPolicy _ s _ (HP.out.ext HE2.out) htot).mono ?_; rintro e w3 ⟨v3, rfl, ho, he⟩; rw [hP] at ho; have HO3 := Lib.hid ho.rs; obtain ⟨p3, q3, rfl, hq3⟩ := ho.form; have HE3 := Lib.hid he; clear ho he)
      | (go_at_call 20; refine (law_samePolicy _ _ P P _ (HO.out.ext HE3.out) HO3.out).mono ?_; rintro e w4 ⟨rfl, he⟩; have HE4 := Lib.hid he; clear he))
    rw [Eqb.t (rfl : P = P)]
    simp only [Bool.not_true]
    have HS := Lib.hid ((HE1.out.tr HE2.out).tr (HE3.out.tr HE4.out))
    have HX := Lib.hid (HE3.out.tr HE4.out)
    have KA4 := KA2.ext HX.out
    have f0 := KA4.cell (j := 0) rfl
    have f1 := KA4.cell (j := 1) rfl
    have f2 := KA4.cell (j := 2) rfl
    have hA4 := KA4.lt
    replace HO := Lib.hid (HO.out.ext HX.out)
    replace HP := Lib.hid (HP.out.ext (HE2.out.tr HX.out))
    clear b0 b1 b2 d0 d1 d2 KA KA2 HE1 HE2 HE3 HE4 HX HO3 hA hA2 H
    by_cases hz : P.length = 0
    · rw [hz]
      go_wp2_with (go_at_call 13; refine (law_alive _).mono ?_; rintro e w6 ⟨rfl, he⟩; have HE6 := Lib.hid he; clear he)
      go_ret
      exact ⟨rfl, HS.out.tr HE6.out⟩
    · obtain ⟨h5, hrl, htr, hpv, hg0, hg1⟩ := M.leastP_facts hP hz
      have HRL := Lib.hid hrl
      have HTR := Lib.hid htr
      have HPV := Lib.hid hpv
      have HG0 := Lib.hid hg0
      have HG1 := Lib.hid hg1
      have hzi : ((P.length : Int) == 0) = false := beq_eq_false_iff_ne.2 (by omega)
      clear hrl htr hpv hg0 hg1 hz
      go_wp2
      go_loopw [6] (fun i wr => ∃ k : Nat, k ≤ P.length ∧ i = .int .i64 k ∧ Ext w4 wr) (fun i _ => P.length - (intOf i).toNat)
      case atStart => exact ⟨0, Nat.zero_le _, rfl, Ext.refl _⟩
      case round =>
        obtain ⟨ka, hka, rfl, hq⟩ := hrel
        have HQ := Lib.hid hq
        clear hq
        by_cases hkt : ka < P.length
        · obtain ⟨wo, rfl⟩ : ∃ wo, wo = wr := ⟨_, rfl⟩
          go_wp2
          go_loopw [7] (fun i wr => ∃ k : Nat, k ≤ P.length ∧ i = .int .i64 k ∧ Ext w4 wr) (fun i _ => P.length - (intOf i).toNat)
          case atStart => exact ⟨0, Nat.zero_le _, rfl, HQ.out⟩
          case round =>
            clear HQ
            obtain ⟨kb, hkb, rfl, hq⟩ := hrel
            have HQ := Lib.hid hq
            clear hq
            by_cases hbt : kb < P.length
            · obtain ⟨wo, rfl⟩ : ∃ wo, wo = wr := ⟨_, rfl⟩
              obtain ⟨b5, o5, ra, a5, c5, hb5, lt5, hra, hd5, hr5, _⟩ := HO.out.atList ka hkt
              cases hb5
              obtain ⟨b6, o6, rb, a6, c6, hb6, lt6, hrb, hd6, hr6, _⟩ := HO.out.atList kb hbt
              cases hb6
              have hla := HRL.out ka ra hra.out
              have hlb := HRL.out kb rb hrb.out
              rw [hla] at hd5 hr5
              rw [hlb] at hd6 hr6
              obtain ⟨b7, o7, x, rfl, lt7, hx7, hc7⟩ := hr5.out.atBool kb (by omega)
              have hxy := M.at2_of hra.out hx7.out
              have HXY := Lib.hid hxy
              clear hxy
              go_wp2
              go_loopw [8] (fun i wr => ∃ k : Nat, k ≤ P.length ∧ i = .int .i64 k ∧ Ext w4 wr) (fun i _ => P.length - (intOf i).toNat)
              case atStart => exact ⟨0, Nat.zero_le _, rfl, HQ.out⟩
              case round =>
                clear HQ
                obtain ⟨kc, hkc, rfl, hq⟩ := hrel
                have HQ := Lib.hid hq
                have e5 := (cell_ext hq lt5).trans hd5
                have e6 := (cell_ext hq lt6).trans hd6
                have e7 := (cell_ext hq lt7).trans hc7
                clear hq
                by_cases hct : kc < P.length
                · obtain ⟨b8, o8, y, rfl, lt8, hy8, hc8⟩ := hr6.out.atBool kc (by omega)
                  obtain ⟨b9, o9, z, hb9, lt9, hz9, hc9⟩ := hr5.out.atBool kc (by omega)
                  cases hb9
                  have e8 := (cell_ext HQ.out lt8).trans hc8
                  have e9 := (cell_ext HQ.out lt9).trans hc9
                  have hyy := M.at2_of hrb.out hy8.out
                  have hzz := M.at2_of hra.out hz9.out
                  cases x
                  · clear hyy hzz
                    go_wp2
                    go_roundw
                    case rel => exact ⟨kc + 1, by omega, by go_num, HQ.out⟩
                    case measure => simp [intOf]; omega
                  · cases y
                    · clear hyy hzz
                      go_wp2
                      go_roundw
                      case rel => exact ⟨kc + 1, by omega, by go_num, HQ.out⟩
                      case measure => simp [intOf]; omega
                    · obtain rfl : z = true := hzz.symm.trans (HTR.out ka kb kc hkt hbt hct HXY.out hyy)
                      clear hyy hzz
                      go_wp2
                      go_roundw
                      case rel => exact ⟨kc + 1, by omega, by go_num, HQ.out⟩
                      case measure => simp [intOf]; omega
                · by_cases hab : ka = kb
                  · have hbe : ((ka : Int) != (kb : Int)) = false := by simp [hab]
                    go_wp2
                    go_roundw
                    case rel => exact ⟨kb + 1, by omega, by go_num, HQ.out⟩
                    case measure => simp [intOf]; omega
                  · have hbe : ((ka : Int) != (kb : Int)) = true := by simp; omega
                    cases x
                    · go_wp2
                      go_roundw
                      case rel => exact ⟨kb + 1, by omega, by go_num, HQ.out⟩
                      case measure => simp [intOf]; omega
                    · obtain ⟨wi, rfl⟩ : ∃ wi, wi = wr := ⟨_, rfl⟩
                      go_upto_block 6 with (fail)
                      refine abs_world (fun W0 => Ext wi W0 ∧ Oo (α := List Bool) 41 wi.heap.size W0 (.slice (some ⟨wi.heap.size, 0, none⟩) 0 0) []) ⟨(Ext.refl _).alloc _, Oo.lit0 _ _⟩ ?_
                      rintro W0 ⟨e0, ho0⟩
                      have HW0 := Lib.hid e0
                      have HL0 := Lib.hid ho0
                      clear e0 ho0 e5 e6 e7 hc7 hd6
                      go_wp2_with fail
                      go_loopw [9, 10] (fun v9 i wr => ∃ (j : Nat) (ao : Option Addr) (no co : Nat), j ≤ P.length ∧ i = .int .i64 j ∧ v9 = .slice ao no co ∧ Oo 41 wi.heap.size wr (.slice ao no co) (P.take j) ∧ Ext wi wr) (fun _ i _ => P.length - (intOf i).toNat)
                      case atStart => exact ⟨0, _, _, _, Nat.zero_le _, rfl, rfl, HL0.out, HW0.out⟩
                      case round =>
                        clear HL0 HW0
                        obtain ⟨j, ao, no, co, hj, rfl, rfl, hoo, hq⟩ := hrel
                        have HW := Lib.hid hq
                        have HOW := Lib.hid (HQ.out.tr hq)
                        have hszr := hq.sz
                        clear hq
                        by_cases hjt : j < P.length
                        · have HOB := Lib.hid hoo.ob
                          clear hoo
                          obtain ⟨b8, o8, rj, a8, c8, hb8, lt8, hrj, hd8, hr8, _⟩ := (HO.out.ext HOW.out).atList j hjt
                          cases hb8
                          have hlj := HRL.out j rj hrj.out
                          obtain ⟨g8, q8, rfl, _, hrow8⟩ := hr8.out.row (by rw [hlj]; omega)
                          have hg8 := hrow8.lt (List.length_pos_iff.1 (by omega))
                          have HR8 := Lib.hid hrow8
                          have HLJ := Lib.hid hlj
                          have HST := Lib.hid (take_snoc hrj.out)
                          rw [hlj] at hd8
                          clear hrow8 hr8 hrj
                          have hjl : (P.take j).length = j := by rw [List.length_take]; omega
                          go_wp2_with (at_builtin; first
                            | (refine wpl_appB (α := Bool) rfl _ _ 41 rfl 4 Try.underlying41 elBool (v := .slice (some ⟨wr.heap.size, 0, none⟩) 0 0) (ys := rj) (Fy := []) rfl (Oo.lit0 (α := Bool) 4 wr).ob (by simp) (Nat.le_refl _) rfl HLJ.out (HR8.out.keep (((Ext.refl wr).alloc _).block _ hg8) (fun k hk => by cases hk)) (by omega) (Own.nil _ _) (by simp; omega) ?_; intro v5 w5 hO5 hg5; have HN5 := Lib.hid (Os.own1 hO5); have HE5 : Hid (Ext wr w5) := Lib.hid (hg5.ext ((Ext.refl wr).alloc _) (fun k hk => by have := Option.mem_toList.1 hk; simp only [Value.ownBlock, Option.some.injEq] at this; omega)); obtain ⟨p5, n5, q5, rfl⟩ := hO5.sh; clear hO5 hg5)
                            | (obtain ⟨F5, henc5, hown5⟩ := HN5.out; refine wpl_appB (α := List Bool) rfl _ _ 38 rfl 41 Try.underlying38 elBoolS (v := .slice ao no co) (ys := [rj]) (Fy := F5) rfl (HOB.out.of (fun k _ h => (HE5.out.alloc _).block k h)) hszr (HE5.out.alloc _).sz rfl rfl (Row.lit1 (cs := [_]) henc5) (by simp) (hown5.ext ((Ext.refl _).alloc _)) (by rw [hjl]; omega) ?_; intro v6 w6 hO6 hg6; have HO6 := Lib.hid hO6; have HE6 : Hid (Ext wi w6) := Lib.hid (hg6.ext ((HW.out.tr HE5.out).alloc _) (fun k hk => (HOB.out.own k (Option.mem_toList.1 hk)).1)); obtain ⟨p6, n6, q6, rfl⟩ := hO6.sh; clear hO6 hg6 henc5 hown5))
                          go_roundw
                          case rel => exact ⟨j + 1, _, _, _, by omega, by go_num, rfl, by rw [HST.out]; exact HO6.out, HE6.out⟩
                          case measure => simp [intOf]; omega
                        · obtain rfl : j = P.length := by omega
                          rw [List.take_length] at hoo
                          obtain ⟨b8, o8, r8, a8, c8, hb8, lt8, hr8, hd8, _, _⟩ := hoo.rs.atList ka hkt
                          cases hb8
                          obtain rfl : r8 = ra := Option.some.inj (hr8.out.symm.trans hra.out)
                          obtain ⟨g2, s2, q2', hc, hc1, hc2, hcell, hfz, hgl, hg2l, hLg, hMg, hback⟩ := hoo.os.osb.bool2 ka kb r8 hra.out (by omega)
                          have hnn := Oo.form hoo
                          obtain ⟨_, _, hnn, _⟩ := hnn
                          cases hnn
                          rw [hla] at hc hc1
                          clear hd8 hd5
                          have HNW := Lib.hid (hback.out wr true (Ext.refl _))
                          clear HNW
                          have HBK := Lib.hid (hback.out wr false (Ext.refl _))
                          have HWS := Lib.hid ((HOW.out.set (p := ⟨g2, s2 + kb, none⟩) (by have := HQ.out.sz; show _ ≤ g2; omega) (.bool false)))
                          have KA5 := Lib.hid (KA4.ext HOW.out)
                          clear hback hoo
                          go_upto_region 28 with (fail)
                          refine abs_world (fun W => Ext w4 W ∧ Rs W (.slice (some ⟨b8, o8, none⟩) P.length co) (M.less P ka kb)) ⟨HWS.out, by
                            have := HBK.out.os.rs
                            have h7 : P.getD ka [] = r8 := by rw [List.getD_eq_getElem?_getD, hra.out]; rfl
                            unfold M.less
                            rw [h7]
                            exact this⟩ ?_
                          rintro W ⟨ew, hrs⟩
                          have HEW := Lib.hid ew
                          have HRS := Lib.hid hrs
                          have KA6 := KA4.ext ew
                          have g0 := KA6.cell (j := 0) rfl
                          have g1 := KA6.cell (j := 1) rfl
                          have g2 := KA6.cell (j := 2) rfl
                          clear ew hrs HBK HWS
                          have hg := HG1.out ka kb hkt hbt hab HXY.out
                          have hrg : rng (10 * (ka : Int) + kb) := rng_small (by omega) (by omega)
                          go_upto_if 112 with (first
                            | (go_at_call 22; refine (impl_PolicyGaps _ _ s (M.less P ka kb) _ (HP.out.ext HEW.out) HRS.out).mono ?_; rintro e w7 ⟨v7, rfl, ho, he⟩; rw [hg] at ho; have HO7 := Lib.hid ho.rs; have HE7 := Lib.hid (HEW.out.tr he); obtain ⟨p7, q7, rfl, _⟩ := ho.rs.form; clear ho he)
                            | (go_at_call 11; refine (law_sameInts _ _ [10 * (ka : Int) + kb] [10 * (ka : Int) + kb] _ (HO7.out.ext ((Ext.refl _).alloc _)) (rs_one hrg)).mono ?_; rintro e w8 ⟨rfl, he⟩; have HE8 := Lib.hid ((HE7.out.alloc _).tr he); clear he))
                          rw [Eqb.t rfl]
                          simp only [Bool.not_true]
                          go_wp2
                          go_roundw
                          case rel => exact ⟨kb + 1, by omega, by go_num, HE8.out⟩
                          case measure => simp [intOf]; omega
            · go_wp2
              go_roundw
              case rel => exact ⟨ka + 1, by omega, by go_num, HQ.out⟩
              case measure => simp [intOf]; omega
        · have g0 := (KA4.ext HQ.out).cell (j := 0) rfl
          have g1 := (KA4.ext HQ.out).cell (j := 1) rfl
          have g2 := (KA4.ext HQ.out).cell (j := 2) rfl
          go_wp2_with (first
            | (go_at_call 23; refine (implPolicyValid _ P _ _ (HO.out.ext HQ.out)).mono ?_; rintro e w7 ⟨rfl, hq⟩; rw [HPV.out]; have HE7 := Lib.hid (HQ.out.tr hq.ext); have g0 := (KA4.ext HE7.out).cell (j := 0) rfl; have g1 := (KA4.ext HE7.out).cell (j := 1) rfl; have g2 := (KA4.ext HE7.out).cell (j := 2) rfl; clear hq)
            | (go_at_call 22; refine (impl_PolicyGaps _ _ s P _ (HP.out.ext HE7.out) (HO.out.ext HE7.out)).mono ?_; rintro e w8 ⟨v8, rfl, ho, he⟩; rw [HG0.out] at ho; have HE8 := Lib.hid (HE7.out.tr he); obtain ⟨p7, q7, rfl, _⟩ := ho.rs.form; clear ho he))
          go_ret
          exact ⟨rfl, HS.out.tr HE8.out⟩
  · have hx2 : 1048576 < xs.length := by omega
    clear hx
    go_enter Try.func5, Try.ntmps5
    go_wp2
    go_ret
    exact ⟨rfl, Ext.refl w⟩
end Sk

namespace Sk
open Go Go.Proofs Go.RowKit
set_option maxHeartbeats 800000
set_option maxRecDepth 100000
set_option linter.unusedVariables false
set_option linter.unusedSimpArgs false
theorem Mx.own {F G : List Nat} {L : Nat} {a b : World} (h : Mx F a b) (ho : Own L a G) : Own L b G := ⟨ho.1, fun x hx => ⟨(ho.2 x hx).1, h.2.2.2 x (ho.2 x hx).2⟩⟩
theorem mkT_ct_Setup (x : Setup) (k : Int) : (x.mkT k).ctT = x.ctT := GT.mkE_ct _ _
theorem mkT_idem_Setup (x : Setup) (k : Int) : (x.mkT k).mkT k = x.mkT k := GT.mkE_idem _ _
theorem mkT_ct_Board (x : Board) (k : Int) : (x.mkT k).ctT = x.ctT := GT.mkE_ct _ _
theorem mkT_idem_Board (x : Board) (k : Int) : (x.mkT k).mkT k = x.mkT k := GT.mkE_idem _ _
theorem mkT_ct_Machine (x : Machine) (k : Int) : (x.mkT k).ctT = x.ctT := by simp only [Machine.mkT, Machine.ctT, GT.mkE_ct]
theorem mkT_idem_Machine (x : Machine) (k : Int) : (x.mkT k).mkT k = x.mkT k := by simp only [Machine.mkT, GT.mkE_ct, GT.mkE_idem]
theorem mkT_ct_Watch (x : Watch) (k : Int) : (x.mkT k).ctT = x.ctT := by simp only [Watch.mkT, Watch.ctT, GT.mkE_ct, mkT_ct_Machine]
theorem mkT_idem_Watch (x : Watch) (k : Int) : (x.mkT k).mkT k = x.mkT k := by simp only [Watch.mkT, mkT_ct_Machine, mkT_idem_Machine, GT.mkE_idem]
end Sk

