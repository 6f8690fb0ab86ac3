/- Contracts of functions of the given program, and lemmas for them: each theorem states the condition under which it holds. -/
import Derived.Test.YtmkibejcdldjeaaChecked
import Derived.Deep.CutBlock
import Derived.Deep.CutRange
import Derived.Test.YtmkibejcdldjeaaSame
import Derived.Test.YtmkibejcdldjeaaDrawSt
import Derived.Test.YtmkibejcdldjeaaDrawRS
import Derived.Test.YtmkibejcdldjeaaDrawPt
import Derived.Test.YtmkibejcdldjeaaLeastS
import Derived.Test.YtmkibejcdldjeaaGaps
import Derived.Test.YtmkibejcdldjeaaDel
import Derived.Test.YtmkibejcdldjeaaCutS
import Derived.Test.YtmkibejcdldjeaaNumsS
namespace Sk
open Go Go.Proofs Go.RowKit
set_option maxHeartbeats 3000000
set_option maxRecDepth 100000
set_option linter.unusedVariables false
set_option linter.unusedSimpArgs false
/-- How far the influences of a policy were seen to go on. -/
def OnTo (q : List (List Bool)) (n ka kb kc : Nat) (o : Bool) : Prop :=
  o = true → ∀ a b c, a < n → b < n → c < n → (a < ka ∨ (a = ka ∧ (b < kb ∨ (b = kb ∧ c < kc)))) → M.at2 q a b = true → M.at2 q b c = true → M.at2 q a c = true
theorem OnTo.zero (q : List (List Bool)) (n : Nat) (o : Bool) : OnTo q n 0 0 0 o := fun _ a b c _ _ _ h => by omega
theorem OnTo.off (q : List (List Bool)) (n ka kb kc : Nat) : OnTo q n ka kb kc false := fun h => by cases h
theorem OnTo.nextA {q : List (List Bool)} {n ka : Nat} {o : Bool} (h : OnTo q n ka n 0 o) : OnTo q n (ka + 1) 0 0 o :=
  fun ho a b c ha hb hc hk => h ho a b c ha hb hc (by omega)
theorem OnTo.nextB {q : List (List Bool)} {n ka kb : Nat} {o : Bool} (h : OnTo q n ka kb n o) : OnTo q n ka (kb + 1) 0 o :=
  fun ho a b c ha hb hc hk => h ho a b c ha hb hc (by omega)
theorem OnTo.nextC {q : List (List Bool)} {n ka kb kc : Nat} {o : Bool} (h : OnTo q n ka kb kc o) (hk : M.at2 q ka kb = true → M.at2 q kb kc = true → M.at2 q ka kc = true) : OnTo q n ka kb (kc + 1) o :=
  fun ho a b c ha hb hc hk2 h1 h2 => by
    by_cases he : a = ka ∧ b = kb ∧ c = kc
    · obtain ⟨rfl, rfl, rfl⟩ := he; exact hk h1 h2
    · exact h ho a b c ha hb hc (by omega) h1 h2
theorem OnTo.all {q : List (List Bool)} {n : Nat} {o : Bool} (h : OnTo q n n 0 0 o) (ho : o = true) : ∀ a b c, a < n → b < n → c < n → M.at2 q a b = true → M.at2 q b c = true → M.at2 q a c = true :=
  fun a b c ha hb hc => h ho a b c ha hb hc (by omega)
theorem Rv.chans {w : World} {a0 a1 a2 : Option Addr} {n0 n1 n2 c0 c1 c2 : Nat} {s : Setup} (h : Rv w (.agg #[.slice a0 n0 c0, .slice a1 n1 c1, .slice a2 n2 c2]) s) : Rs w (.slice a1 n1 c1) s.Channels := by
  obtain ⟨cs, F, he, v0, v1, v2, F0, F1, F2, rfl, h0, h1, h2, rfl⟩ := h
  have hq := agg_inj he
  have : #[Value.slice a0 n0 c0, .slice a1 n1 c1, .slice a2 n2 c2].toList = [v0, v1, v2] := by rw [hq]
  simp at this
  obtain ⟨rfl, rfl, rfl⟩ := this
  exact ⟨F1, h1⟩
theorem lawCutChannels (v : Value) (xs : List By) (w : World) (h : Rs w v xs) :
    Calls Try.prog 3 #[v] w fun e w' => e = .returned (.bool true) ∧ Ext w w' := by
  obtain ⟨a, c, rfl, hl⟩ := h.form
  have H := Lib.hid h
  clear h
  by_cases hx : xs.length ≤ 1048576
  rotate_left
  · have hx2 : 1048576 < xs.length := by omega
    clear hx
    go_enter Try.func3, Try.ntmps3
    go_wp2
    go_ret
    exact ⟨rfl, Ext.refl w⟩
  go_enter Try.func3, Try.ntmps3
  go_upto_region 4 with (go_at_call 7; refine (spec_DrawCutChannels _ _ _ H.out).mono ?_; rintro e w1 ⟨v', s, vq, q, rfl, hp, hds, ⟨hq, hdp⟩, he⟩; obtain ⟨a0, c0, a1, c1, a2, c2, rfl, hl0, hl1, hl2⟩ := hp.openS; obtain ⟨pq, cq, rfl, hlq⟩ := hq.rs.form; have HP := Lib.hid hp.rv; have HPQ := Lib.hid hq.rs; have HE := Lib.hid he; have HDS := Lib.hid hds; have HDP := Lib.hid hdp; clear hp he hds hq hdp)
  refine abs_world (fun W1 => Ext w1 W1 ∧ Bk W1 w1.heap.size [.slice a0 s.Parts.length c0, .slice a1 s.Channels.length c1, .slice a2 s.Slots.length c2] 27) ⟨(Ext.refl _).alloc _, Bk.new _ _ _⟩ ?_
  rintro W1 ⟨e1, kA⟩
  have HE1 := Lib.hid (HE.out.tr e1)
  have KA := Lib.hid kA
  have hA := kA.lt
  have d0 := kA.cell (j := 0) rfl
  have d1 := kA.cell (j := 1) rfl
  have d2 := kA.cell (j := 2) rfl
  replace HP := Lib.hid (HP.out.ext e1)
  replace HPQ := Lib.hid (HPQ.out.ext e1)
  clear e1 kA HE
  have htot : GT.tot s ≤ 1048576 := Nat.le_trans HDS.out.tot (by omega)
  have htq : GT.tot q ≤ 1048576 := Nat.le_trans HDP.out.tot (by omega)
  obtain ⟨x, hX⟩ : ∃ x, M.cut s q = x := ⟨_, rfl⟩
  go_upto_region 5 with (go_at_call 8; refine (impl_CutChannels _ _ s q _ HP.out HPQ.out htot).mono ?_; rintro e w2 ⟨v2, rfl, ho, he⟩; rw [hX] at ho; obtain ⟨x0, y0, x1, y1, x2, y2, rfl, _⟩ := ho.rv.openSetup; have HO := Lib.hid ho.rv; have HE2 := Lib.hid he; clear ho he)
  refine abs_world (fun W2 => Ext w2 W2 ∧ Bk W2 w2.heap.size [.slice x0 x.Parts.length y0, .slice x1 x.Channels.length y1, .slice x2 x.Slots.length y2] 27) ⟨(Ext.refl _).alloc _, Bk.new _ _ _⟩ ?_
  rintro W2 ⟨e2, kB⟩
  have KA2 := KA.out.ext (HE2.out.tr e2)
  have a20 := KA2.cell (j := 0) rfl
  have a21 := KA2.cell (j := 1) rfl
  have a22 := KA2.cell (j := 2) rfl
  have hA2 := KA2.lt
  have b20 := kB.cell (j := 0) rfl
  have b21 := kB.cell (j := 1) rfl
  have b22 := kB.cell (j := 2) rfl
  have hB2 := kB.lt
  replace HO := Lib.hid (HO.out.ext e2)
  replace HP := Lib.hid (HP.out.ext (HE2.out.tr e2))
  replace HPQ := Lib.hid (HPQ.out.ext (HE2.out.tr e2))
  have HS := Lib.hid (HE1.out.tr (HE2.out.tr e2))
  have KB := Lib.hid kB
  replace KA2 := Lib.hid KA2
  obtain ⟨N, hN⟩ : ∃ N, M.numbers x = N := ⟨_, rfl⟩
  clear e2 kB HE1 HE2 KA hA d0 d1 d2 H
  go_region_held3 (fun u => u.cell? ⟨w1.heap.size, 0, none⟩ = some (.slice a0 s.Parts.length c0) ∧ u.cell? ⟨w1.heap.size, 1, none⟩ = some (.slice a1 s.Channels.length c1) ∧ u.cell? ⟨w1.heap.size, 2, none⟩ = some (.slice a2 s.Slots.length c2) ∧ u.cell? ⟨w2.heap.size, 0, none⟩ = some (.slice x0 x.Parts.length y0) ∧ u.cell? ⟨w2.heap.size, 1, none⟩ = some (.slice x1 x.Channels.length y1) ∧ u.cell? ⟨w2.heap.size, 2, none⟩ = some (.slice x2 x.Slots.length y2))
    (first
      | go_keep
      | exact ⟨(cell_ext HE4.out hA2).trans a20, (cell_ext HE4.out hA2).trans a21, (cell_ext HE4.out hA2).trans a22, (cell_ext HE4.out hB2).trans b20, (cell_ext HE4.out hB2).trans b21, (cell_ext HE4.out hB2).trans b22⟩)
    (first
      | (go_at_call 9; refine (law_sameInts _ _ N N _ HO4.out HO5.out).mono ?_; rintro e w6 ⟨rfl, he⟩; rw [Eqb.t (rfl : N = N)]; replace HE4 := Lib.hid (HE4.out.tr he); clear he)
      | (go_at_call 11; refine (spec_SetupNumbers _ x _ HX5.out).mono ?_; rintro e w5 ⟨v5, rfl, ho, he⟩; rw [hN] at ho; have HO5 := Lib.hid ho.rs; replace HO4 := Lib.hid (HO4.out.ext he); replace HE4 := Lib.hid (HE4.out.tr he); clear ho he)
      | (go_at_call 12; refine (spec_CutChannels _ _ s q _ (HP.out.ext HE4.out) (HPQ.out.ext HE4.out) htot htq).mono ?_; rintro e w45 ⟨v45, rfl, ho, he⟩; rw [hX] at ho; have HX5 := Lib.hid ho; replace HO4 := Lib.hid (HO4.out.ext he); replace HE4 := Lib.hid (HE4.out.tr he); clear ho he)
      | (go_at_call 10; refine (impl_SetupNumbers _ x _ (HO.out.ext (Ext.refl W2).drew)).mono ?_; rintro e w4 ⟨v4, rfl, ho, he⟩; rw [hN] at ho; have HO4 := Lib.hid ho.rs; have HE4 := Lib.hid ((Ext.refl W2).drew.tr he); clear ho he))
  have HS6 := Lib.hid (HS.out.tr HE4.out)
  have KA6 := KA2.out.ext HE4.out
  have KB6 := KB.out.ext HE4.out
  have f0 := KB6.cell (j := 0) rfl
  have f1 := KB6.cell (j := 1) rfl
  have f2 := KB6.cell (j := 2) rfl
  have hB6 := KB6.lt
  replace HO := Lib.hid (HO.out.ext HE4.out)
  replace HP := Lib.hid (HP.out.ext HE4.out)
  replace HPQ := Lib.hid (HPQ.out.ext HE4.out)
  replace KA6 := Lib.hid KA6
  replace KB6 := Lib.hid KB6
  clear HO4 HO5 HX5 HS KA2 KB a20 a21 a22 b20 b21 b22 hA2 hB2 HE4
  by_cases hsl : x.Slots = []
  · have hz : x.Slots.length = 0 := by rw [hsl]; rfl
    rw [hz] at f2
    go_wp2_with (go_at_call 13; refine (law_alive _).mono ?_; rintro e w7 ⟨rfl, he⟩; have HE6 := Lib.hid he; clear he)
    go_ret
    exact ⟨rfl, HS6.out.tr HE6.out⟩
  obtain ⟨⟨g, gk, hPx, hSx, hp5⟩, hv, hch, hon, hgp⟩ := M.cut_facts hX hsl
  have hqn := M.pv_len gk
  have hsp : x.Slots.length ≠ 0 := fun h => hsl (List.length_eq_zero_iff.1 h)
  have hzi : ((x.Slots.length : Int) == 0) = false := beq_eq_false_iff_ne.2 (by omega)
  have GK := Lib.hid gk
  have HCH := Lib.hid hch
  have HON := Lib.hid hon
  have HGP := Lib.hid hgp
  have HV := Lib.hid hv
  have HQN := Lib.hid hqn
  have HPX := Lib.hid hPx
  have hq5 : q.length ≤ 5 := by omega
  replace hX := Lib.hid hX
  replace hN := Lib.hid hN
  clear g gk hSx hv hch hon hgp hqn hsl hPx
  go_wp2
  go_loopw [6, 8] (fun o i wr => ∃ (k : Nat) (ob : Bool), k ≤ q.length ∧ i = .int .i64 k ∧ o = .bool ob ∧ OnTo q q.length k 0 0 ob ∧ Ext w6 wr) (fun _ i _ => q.length - (intOf i).toNat)
  case atStart => exact ⟨0, _, Nat.zero_le _, rfl, rfl, OnTo.zero _ _ _, Ext.refl _⟩
  case round =>
    obtain ⟨ka, ob, hka, rfl, rfl, hot, hq⟩ := hrel
    have HQ := Lib.hid hq
    have HOT := Lib.hid hot
    clear hq hot
    by_cases hkt : ka < q.length
    · obtain ⟨wo, rfl⟩ : ∃ wo, wo = wr := ⟨_, rfl⟩
      go_wp2
      go_loopw [6, 9] (fun o i wr => ∃ (k : Nat) (ob : Bool), k ≤ q.length ∧ i = .int .i64 k ∧ o = .bool ob ∧ OnTo q q.length ka k 0 ob ∧ Ext w6 wr) (fun _ i _ => q.length - (intOf i).toNat)
      case atStart => exact ⟨0, _, Nat.zero_le _, rfl, rfl, HOT.out, HQ.out⟩
      case round =>
        clear HOT HQ
        obtain ⟨kb, ob, hkb, rfl, rfl, hot, hq⟩ := hrel
        have HQ := Lib.hid hq
        have HOT := Lib.hid hot
        clear hq hot
        by_cases hbt : kb < q.length
        · obtain ⟨wo, rfl⟩ : ∃ wo, wo = wr := ⟨_, rfl⟩
          obtain ⟨b5, o5, ra, a5, c5, hb5, lt5, hra, hd5, hr5, _⟩ := HPQ.out.atList ka hkt
          cases hb5
          obtain ⟨b6, o6, rb, a6, c6, hb6, lt6, hrb, hd6, hr6, _⟩ := HPQ.out.atList kb hbt
          cases hb6
          have hla : ra.length = q.length := (M.pv_row GK.out hra.out).trans HQN.out.symm
          have hlb : rb.length = q.length := (M.pv_row GK.out hrb.out).trans HQN.out.symm
          obtain ⟨b7, o7, p, rfl, lt7, hx7, hc7⟩ := hr5.out.atBool kb (by omega)
          have HXY := Lib.hid (M.at2_of hra.out hx7.out)
          go_wp2
          go_loopw [6, 10] (fun o i wr => ∃ (k : Nat) (ob : Bool), k ≤ q.length ∧ i = .int .i64 k ∧ o = .bool ob ∧ OnTo q q.length ka kb k ob ∧ Ext w6 wr) (fun _ i _ => q.length - (intOf i).toNat)
          case atStart => exact ⟨0, _, Nat.zero_le _, rfl, rfl, HOT.out, HQ.out⟩
          case round =>
            clear HOT HQ
            obtain ⟨kc, ob, hkc, rfl, rfl, hot, hq⟩ := hrel
            have HQ := Lib.hid hq
            have HOT := Lib.hid hot
            have e5 := (cell_ext hq lt5).trans hd5
            have e6 := (cell_ext hq lt6).trans hd6
            have e7 := (cell_ext hq lt7).trans hc7
            clear hq hot
            by_cases hct : kc < q.length
            · obtain ⟨b8, o8, y, rfl, lt8, hy8, hc8⟩ := hr6.out.atBool kc (by omega)
              obtain ⟨b9, o9, z, hb9, lt9, hz9, hc9⟩ := hr5.out.atBool kc (by omega)
              cases hb9
              have e8 := (cell_ext HQ.out lt8).trans hc8
              have e9 := (cell_ext HQ.out lt9).trans hc9
              have HYY := Lib.hid (M.at2_of hrb.out hy8.out)
              have HZZ := Lib.hid (M.at2_of hra.out hz9.out)
              cases ob
              · go_wp2
                go_roundw
                case rel => exact ⟨kc + 1, _, by omega, by go_num, rfl, OnTo.off _ _ _ _ _, HQ.out⟩
                case measure => simp [intOf]; omega
              · cases p
                · go_wp2
                  go_roundw
                  case rel => exact ⟨kc + 1, true, by omega, by go_num, rfl, HOT.out.nextC (fun h _ => by rw [HXY.out] at h; cases h), HQ.out⟩
                  case measure => simp [intOf]; omega
                · cases y
                  · go_wp2
                    go_roundw
                    case rel => exact ⟨kc + 1, true, by omega, by go_num, rfl, HOT.out.nextC (fun _ h => by rw [HYY.out] at h; cases h), HQ.out⟩
                    case measure => simp [intOf]; omega
                  · cases z
                    · go_wp2
                      go_roundw
                      case rel => exact ⟨kc + 1, false, by omega, by go_num, rfl, OnTo.off _ _ _ _ _, HQ.out⟩
                      case measure => simp [intOf]; omega
                    · go_wp2
                      go_roundw
                      case rel => exact ⟨kc + 1, true, by omega, by go_num, rfl, HOT.out.nextC (fun _ _ => HZZ.out), HQ.out⟩
                      case measure => simp [intOf]; omega
            · obtain rfl : kc = q.length := by omega
              go_wp2
              go_roundw
              case rel => exact ⟨kb + 1, _, by omega, by go_num, rfl, HOT.out.nextB, HQ.out⟩
              case measure => simp [intOf]; omega
        · obtain rfl : kb = q.length := by omega
          go_wp2
          go_roundw
          case rel => exact ⟨ka + 1, _, by omega, by go_num, rfl, HOT.out.nextA, HQ.out⟩
          case measure => simp [intOf]; omega
    · obtain rfl : ka = q.length := by omega
      replace HON : Hid (ob = true → M.policyGaps x q = []) := Lib.hid (fun ho => HON.out (by rw [← HQN.out]; exact HOT.out.all ho))
      obtain ⟨wp, rfl⟩ : ∃ wp, wp = wr := ⟨_, rfl⟩
      clear f0 f1 f2 HOT
      go_wp2
      have HCX := Lib.hid HO.out.chans
      go_loopw [11] (fun i wr => ∃ k : Nat, k ≤ x.Channels.length ∧ i = .int .i64 k ∧ Ext w6 wr) (fun i _ => x.Channels.length - (intOf i).toNat)
      case atStart => exact ⟨0, Nat.zero_le _, rfl, HQ.out⟩
      case round =>
        clear HQ
        obtain ⟨k, hk, rfl, hq⟩ := hrel
        have HQ := Lib.hid hq
        clear hq
        have KX := KB6.out.ext (HQ.out)
        have KY := KA6.out.ext (HQ.out)
        have f0 := KX.cell (j := 0) rfl
        have f1 := KX.cell (j := 1) rfl
        have f2 := KX.cell (j := 2) rfl
        have g0 := KY.cell (j := 0) rfl
        have g1 := KY.cell (j := 1) rfl
        have g2 := KY.cell (j := 2) rfl
        have hKX := KX.lt
        have hKY := KY.lt
        by_cases hkt : k < x.Channels.length
        · obtain ⟨bc, oc, cx, hbc, ltc, hcx, hc0, hc1, hc2, hc3, hr0, hr1, hr2, hr3, hvx⟩ := HCX.out.atChannel k hkt
          cases hbc
          obtain ⟨i, j, ei, ej, hin, hjn, hij⟩ := HCH.out cx (List.mem_of_getElem? hcx.out)
          have hin2 : i < q.length := by have := HQN.out; omega
          have hjn2 : j < q.length := by have := HQN.out; omega
          rw [ei] at hc1
          rw [ej] at hc2
          obtain ⟨b5, o5, ra, a5, c5, hb5, lt5, hra, hd5, hr5, _⟩ := HPQ.out.atList i hin2
          cases hb5
          have hla : ra.length = q.length := (M.pv_row GK.out hra.out).trans HQN.out.symm
          obtain ⟨b7, o7, p, rfl, lt7, hx7, hc7⟩ := hr5.out.atBool j (by omega)
          obtain rfl : p = true := (M.at2_of hra.out hx7.out).symm.trans hij
          have e1 := (cell_ext HQ.out ltc).trans hc1
          have e2 := (cell_ext HQ.out ltc).trans hc2
          have e5 := (cell_ext HQ.out lt5).trans hd5
          have e7 := (cell_ext HQ.out lt7).trans hc7
          have hja : j < ra.length := by omega
          clear hc0 hc1 hc2 hc3 hr0 hr1 hr2 hr3 hd5 hc7 hra hx7 hr5 ei ej hla hcx g0 g1 g2 hKY KX KY
          go_upto_region 24 with (fail)
          go_big_quiet (fail)
          go_wp2
          go_roundw
          case rel => exact ⟨k + 1, by omega, by go_num, HQ.out.drewN _⟩
          case measure => simp [intOf]; omega
        · obtain rfl : k = x.Channels.length := by omega
          obtain ⟨G, hG⟩ : ∃ G, M.policyGaps s q = G := ⟨_, rfl⟩
          cases ob
          · by_cases hG0 : G = []
            · have hcl : x.Channels.length = s.Channels.length := HGP.out (hG.trans hG0)
              have hcb : ((x.Channels.length : Int) == (s.Channels.length : Int)) = true := by simp [hcl]
              clear hcl
              subst hG0
              go_wp2_with (first
                | (go_at_call 14; refine (impl_SetupValid _ x _ (HO.out.ext HQ.out)).mono ?_; rintro e w7 ⟨rfl, he⟩; rw [HV.out]; have HE7 := Lib.hid (HQ.out.tr he); have KX := KB6.out.ext (HE7.out); have KY := KA6.out.ext (HE7.out); have f0 := KX.cell (j := 0) rfl; have f1 := KX.cell (j := 1) rfl; have f2 := KX.cell (j := 2) rfl; have g0 := KY.cell (j := 0) rfl; have g1 := KY.cell (j := 1) rfl; have g2 := KY.cell (j := 2) rfl; have hKX := KX.lt; have hKY := KY.lt; clear he)
                | (go_at_call 15; refine (impl_PolicyGaps _ _ s q _ (HP.out.ext HE7.out) (HPQ.out.ext HE7.out)).mono ?_; rintro e w9 ⟨v9, rfl, ho, he⟩; rw [hG] at ho; obtain ⟨p9, q9, rfl, _⟩ := ho.rs.form; have HE9 := Lib.hid (HE7.out.tr he); have KX := KB6.out.ext (HE9.out); have KY := KA6.out.ext (HE9.out); have f0 := KX.cell (j := 0) rfl; have f1 := KX.cell (j := 1) rfl; have f2 := KX.cell (j := 2) rfl; have g0 := KY.cell (j := 0) rfl; have g1 := KY.cell (j := 1) rfl; have g2 := KY.cell (j := 2) rfl; have hKX := KX.lt; have hKY := KY.lt; clear ho he))
              go_ret
              exact ⟨rfl, HS6.out.tr HE9.out⟩
            · have hGp : 0 < G.length := List.length_pos_iff.2 hG0
              clear hG0
              go_wp2_with (first
                | (go_at_call 14; refine (impl_SetupValid _ x _ (HO.out.ext HQ.out)).mono ?_; rintro e w7 ⟨rfl, he⟩; rw [HV.out]; have HE7 := Lib.hid (HQ.out.tr he); have KX := KB6.out.ext (HE7.out); have KY := KA6.out.ext (HE7.out); have f0 := KX.cell (j := 0) rfl; have f1 := KX.cell (j := 1) rfl; have f2 := KX.cell (j := 2) rfl; have g0 := KY.cell (j := 0) rfl; have g1 := KY.cell (j := 1) rfl; have g2 := KY.cell (j := 2) rfl; have hKX := KX.lt; have hKY := KY.lt; clear he)
                | (go_at_call 15; refine (impl_PolicyGaps _ _ s q _ (HP.out.ext HE7.out) (HPQ.out.ext HE7.out)).mono ?_; rintro e w9 ⟨v9, rfl, ho, he⟩; rw [hG] at ho; obtain ⟨p9, q9, rfl, _⟩ := ho.rs.form; have HE9 := Lib.hid (HE7.out.tr he); have KX := KB6.out.ext (HE9.out); have KY := KA6.out.ext (HE9.out); have f0 := KX.cell (j := 0) rfl; have f1 := KX.cell (j := 1) rfl; have f2 := KX.cell (j := 2) rfl; have g0 := KY.cell (j := 0) rfl; have g1 := KY.cell (j := 1) rfl; have g2 := KY.cell (j := 2) rfl; have hKX := KX.lt; have hKY := KY.lt; clear ho he))
              go_ret
              exact ⟨rfl, HS6.out.tr HE9.out⟩
          · by_cases hG0 : G = []
            · have hcl : x.Channels.length = s.Channels.length := HGP.out (hG.trans hG0)
              have hcb : ((x.Channels.length : Int) == (s.Channels.length : Int)) = true := by simp [hcl]
              clear hcl
              subst hG0
              go_wp2_with (first
                | (go_at_call 15; refine (impl_PolicyGaps _ _ s q _ (HP.out.ext HE8.out) (HPQ.out.ext HE8.out)).mono ?_; rintro e w9 ⟨v9, rfl, ho, he⟩; rw [hG] at ho; obtain ⟨p9, q9, rfl, _⟩ := ho.rs.form; have HE9 := Lib.hid (HE8.out.tr he); have KX := KB6.out.ext (HE9.out); have KY := KA6.out.ext (HE9.out); have f0 := KX.cell (j := 0) rfl; have f1 := KX.cell (j := 1) rfl; have f2 := KX.cell (j := 2) rfl; have g0 := KY.cell (j := 0) rfl; have g1 := KY.cell (j := 1) rfl; have g2 := KY.cell (j := 2) rfl; have hKX := KX.lt; have hKY := KY.lt; clear ho he)
                | (go_at_call 15; refine (impl_PolicyGaps _ _ x q _ (HO.out.ext HE7.out) (HPQ.out.ext HE7.out)).mono ?_; rintro e w8 ⟨v8, rfl, ho, he⟩; rw [HON.out trivial] at ho; obtain ⟨p8, q8, rfl, _⟩ := ho.rs.form; have HE8 := Lib.hid (HE7.out.tr he); have KX := KB6.out.ext (HE8.out); have KY := KA6.out.ext (HE8.out); have f0 := KX.cell (j := 0) rfl; have f1 := KX.cell (j := 1) rfl; have f2 := KX.cell (j := 2) rfl; have g0 := KY.cell (j := 0) rfl; have g1 := KY.cell (j := 1) rfl; have g2 := KY.cell (j := 2) rfl; have hKX := KX.lt; have hKY := KY.lt; clear ho he)
                | (go_at_call 14; refine (impl_SetupValid _ x _ (HO.out.ext HQ.out)).mono ?_; rintro e w7 ⟨rfl, he⟩; rw [HV.out]; have HE7 := Lib.hid (HQ.out.tr he); have KX := KB6.out.ext (HE7.out); have KY := KA6.out.ext (HE7.out); have f0 := KX.cell (j := 0) rfl; have f1 := KX.cell (j := 1) rfl; have f2 := KX.cell (j := 2) rfl; have g0 := KY.cell (j := 0) rfl; have g1 := KY.cell (j := 1) rfl; have g2 := KY.cell (j := 2) rfl; have hKX := KX.lt; have hKY := KY.lt; clear he))
              go_ret
              exact ⟨rfl, HS6.out.tr HE9.out⟩
            · have hGp : 0 < G.length := List.length_pos_iff.2 hG0
              clear hG0
              go_wp2_with (first
                | (go_at_call 15; refine (impl_PolicyGaps _ _ s q _ (HP.out.ext HE8.out) (HPQ.out.ext HE8.out)).mono ?_; rintro e w9 ⟨v9, rfl, ho, he⟩; rw [hG] at ho; obtain ⟨p9, q9, rfl, _⟩ := ho.rs.form; have HE9 := Lib.hid (HE8.out.tr he); have KX := KB6.out.ext (HE9.out); have KY := KA6.out.ext (HE9.out); have f0 := KX.cell (j := 0) rfl; have f1 := KX.cell (j := 1) rfl; have f2 := KX.cell (j := 2) rfl; have g0 := KY.cell (j := 0) rfl; have g1 := KY.cell (j := 1) rfl; have g2 := KY.cell (j := 2) rfl; have hKX := KX.lt; have hKY := KY.lt; clear ho he)
                | (go_at_call 15; refine (impl_PolicyGaps _ _ x q _ (HO.out.ext HE7.out) (HPQ.out.ext HE7.out)).mono ?_; rintro e w8 ⟨v8, rfl, ho, he⟩; rw [HON.out trivial] at ho; obtain ⟨p8, q8, rfl, _⟩ := ho.rs.form; have HE8 := Lib.hid (HE7.out.tr he); have KX := KB6.out.ext (HE8.out); have KY := KA6.out.ext (HE8.out); have f0 := KX.cell (j := 0) rfl; have f1 := KX.cell (j := 1) rfl; have f2 := KX.cell (j := 2) rfl; have g0 := KY.cell (j := 0) rfl; have g1 := KY.cell (j := 1) rfl; have g2 := KY.cell (j := 2) rfl; have hKX := KX.lt; have hKY := KY.lt; clear ho he)
                | (go_at_call 14; refine (impl_SetupValid _ x _ (HO.out.ext HQ.out)).mono ?_; rintro e w7 ⟨rfl, he⟩; rw [HV.out]; have HE7 := Lib.hid (HQ.out.tr he); have KX := KB6.out.ext (HE7.out); have KY := KA6.out.ext (HE7.out); have f0 := KX.cell (j := 0) rfl; have f1 := KX.cell (j := 1) rfl; have f2 := KX.cell (j := 2) rfl; have g0 := KY.cell (j := 0) rfl; have g1 := KY.cell (j := 1) rfl; have g2 := KY.cell (j := 2) rfl; have hKX := KX.lt; have hKY := KY.lt; clear he))
              go_ret
              exact ⟨rfl, HS6.out.tr HE9.out⟩
end Sk

