/- Contracts of functions of the given program, and lemmas for them: each theorem states the condition under which it holds. -/
import Derived.Test.YtiepblmmldgmgaaChecked
import Derived.Deep.CutBlock
import Derived.Deep.CutRange
import Derived.Test.YtiepblmmldgmgaaCopy
import Derived.Test.YtiepblmmldgmgaaBuild
import Derived.Test.YtiepblmmldgmgaaRead
import Derived.Test.YtiepblmmldgmgaaTypes
import Derived.Test.YtiepblmmldgmgaaNums
import Derived.Test.YtiepblmmldgmgaaFlowL
import Derived.Test.YtiepblmmldgmgaaDrawSt
import Derived.Test.YtiepblmmldgmgaaLeastS
import Derived.Test.YtiepblmmldgmgaaGaps
import Derived.Test.YtiepblmmldgmgaaDrawPt
import Derived.Test.YtiepblmmldgmgaaHelp
import Derived.Test.YtiepblmmldgmgaaTop
import Derived.Test.YtiepblmmldgmgaaGapsL
import Derived.Test.YtiepblmmldgmgaaAcc
namespace Sk
open Go Go.Proofs Go.RowKit
set_option maxHeartbeats 1600000
set_option maxRecDepth 100000
set_option linter.unusedVariables false
set_option linter.unusedSimpArgs false
theorem rs_one {w : World} {T : TypeId} {z : Int} (h : rng z) : Rs (w.alloc (.cells #[.int .i64 z] T)) (.slice (some ⟨w.heap.size, 0, none⟩) 1 1) [z] :=
  ⟨[w.heap.size], _, 1, rfl, by simp, by unfold maxLen; omega, .inr ⟨by simp, w.heap.size, 0, [], rfl, rfl, Row.lit1 (cs := [.int .i64 z]) ⟨rfl, h, rfl⟩⟩⟩
theorem Rs.row {α : Type} [GT α] [Fl α] {w : World} {a : Option Addr} {n c : Nat} {xs : List α} (h : Rs w (.slice a n c) xs) (hx : 0 < xs.length) : ∃ g o, a = some ⟨g, o, none⟩ ∧ n = xs.length ∧ Row w g o xs [] := by
  obtain ⟨F, a', c', he, hl, hc, hr⟩ := h
  cases he
  rcases hr with ⟨rfl, _⟩ | ⟨_, b, o, F', rfl, rfl, hr⟩
  · cases hx
  · have := hr.fl
    subst this
    exact ⟨b, o, rfl, rfl, hr⟩
theorem Os.own1 {α : Type} [GT α] [Fl α] {e : TypeId} {L : Nat} {w : World} {v : Value} {xs : List α} (h : Oo e L w v xs) : ∃ F, GT.enc w [v] xs F ∧ Own L w F := by
  obtain ⟨F, h1, h2⟩ := h.os
  exact ⟨F, ⟨v, rfl, h1⟩, h2⟩
end Sk

namespace Sk
open Go Go.Proofs Go.RowKit
set_option maxHeartbeats 800000
set_option maxRecDepth 100000
set_option linter.unusedVariables false
set_option linter.unusedSimpArgs false
theorem Mx.own {F G : List Nat} {L : Nat} {a b : World} (h : Mx F a b) (ho : Own L a G) : Own L b G := ⟨ho.1, fun x hx => ⟨(ho.2 x hx).1, h.2.2.2 x (ho.2 x hx).2⟩⟩
theorem mkT_ct_Setup (x : Setup) (k : Int) : (x.mkT k).ctT = x.ctT := GT.mkE_ct _ _
theorem mkT_idem_Setup (x : Setup) (k : Int) : (x.mkT k).mkT k = x.mkT k := GT.mkE_idem _ _
theorem mkT_ct_Board (x : Board) (k : Int) : (x.mkT k).ctT = x.ctT := GT.mkE_ct _ _
theorem mkT_idem_Board (x : Board) (k : Int) : (x.mkT k).mkT k = x.mkT k := GT.mkE_idem _ _
theorem mkT_ct_Machine (x : Machine) (k : Int) : (x.mkT k).ctT = x.ctT := by simp only [Machine.mkT, Machine.ctT, GT.mkE_ct]
theorem mkT_idem_Machine (x : Machine) (k : Int) : (x.mkT k).mkT k = x.mkT k := by simp only [Machine.mkT, GT.mkE_ct, GT.mkE_idem]
theorem mkT_ct_Watch (x : Watch) (k : Int) : (x.mkT k).ctT = x.ctT := by simp only [Watch.mkT, Watch.ctT, GT.mkE_ct, mkT_ct_Machine]
theorem mkT_idem_Watch (x : Watch) (k : Int) : (x.mkT k).mkT k = x.mkT k := by simp only [Watch.mkT, mkT_ct_Machine, mkT_idem_Machine, GT.mkE_idem]
end Sk

namespace Sk
open Go Go.Proofs Go.RowKit
set_option maxHeartbeats 3000000
set_option maxRecDepth 100000
set_option linter.unusedVariables false
set_option linter.unusedSimpArgs false
/-- How far the influences of a policy were seen to go on. -/
def OnTo (q : List (List Bool)) (n ka kb kc : Nat) (o : Bool) : Prop :=
  o = true → ∀ a b c, a < n → b < n → c < n → (a < ka ∨ (a = ka ∧ (b < kb ∨ (b = kb ∧ c < kc)))) → M.at2 q a b = true → M.at2 q b c = true → M.at2 q a c = true
theorem OnTo.zero (q : List (List Bool)) (n : Nat) (o : Bool) : OnTo q n 0 0 0 o := fun _ a b c _ _ _ h => by omega
theorem OnTo.off (q : List (List Bool)) (n ka kb kc : Nat) : OnTo q n ka kb kc false := fun h => by cases h
theorem OnTo.nextA {q : List (List Bool)} {n ka : Nat} {o : Bool} (h : OnTo q n ka n 0 o) : OnTo q n (ka + 1) 0 0 o :=
  fun ho a b c ha hb hc hk => h ho a b c ha hb hc (by omega)
theorem OnTo.nextB {q : List (List Bool)} {n ka kb : Nat} {o : Bool} (h : OnTo q n ka kb n o) : OnTo q n ka (kb + 1) 0 o :=
  fun ho a b c ha hb hc hk => h ho a b c ha hb hc (by omega)
theorem OnTo.nextC {q : List (List Bool)} {n ka kb kc : Nat} {o : Bool} (h : OnTo q n ka kb kc o) (hk : M.at2 q ka kb = true → M.at2 q kb kc = true → M.at2 q ka kc = true) : OnTo q n ka kb (kc + 1) o :=
  fun ho a b c ha hb hc hk2 h1 h2 => by
    by_cases he : a = ka ∧ b = kb ∧ c = kc
    · obtain ⟨rfl, rfl, rfl⟩ := he; exact hk h1 h2
    · exact h ho a b c ha hb hc (by omega) h1 h2
theorem OnTo.all {q : List (List Bool)} {n : Nat} {o : Bool} (h : OnTo q n n 0 0 o) (ho : o = true) : ∀ a b c, a < n → b < n → c < n → M.at2 q a b = true → M.at2 q b c = true → M.at2 q a c = true :=
  fun a b c ha hb hc => h ho a b c ha hb hc (by omega)
end Sk

namespace Sk
open Go Go.Proofs Go.RowKit
set_option maxHeartbeats 4000000
set_option maxRecDepth 100000
set_option linter.unusedVariables false
set_option linter.unusedSimpArgs false
/-- A setup's value without its channels. -/
theorem Rv.quiet {w : World} {a0 a1 a2 : Option Addr} {n0 n1 n2 c0 c1 c2 : Nat} {s : Setup} (h : Rv w (.agg #[.slice a0 n0 c0, .slice a1 n1 c1, .slice a2 n2 c2]) s) :
    Rv w (.agg #[.slice a0 n0 c0, .slice none 0 0, .slice a2 n2 c2]) { s with Channels := [] } := by
  obtain ⟨cs, F, he, v0, v1, v2, F0, F1, F2, rfl, h0, h1, h2, rfl⟩ := h
  have hq := agg_inj he
  have : #[Value.slice a0 n0 c0, .slice a1 n1 c1, .slice a2 n2 c2].toList = [v0, v1, v2] := by rw [hq]
  simp at this
  obtain ⟨rfl, rfl, rfl⟩ := this
  exact ⟨_, F0 ++ ([] ++ F2), rfl, _, _, _, F0, [], F2, rfl, h0, ⟨none, 0, rfl, Nat.le_refl _, Nat.zero_le _, .inl ⟨rfl, rfl⟩⟩, h2, by simp⟩
theorem lawPolicyGaps (v : Value) (xs : List By) (w : World) (h : Rs w v xs) :
    Calls Try.prog 6 #[v] w fun e w' => e = .returned (.bool true) ∧ Ext w w' := by
  obtain ⟨a, c, rfl, hl⟩ := h.form
  have H := Lib.hid h
  clear h
  by_cases hx : xs.length ≤ 1048576
  rotate_left
  · have hx2 : 1048576 < xs.length := by omega
    clear hx
    go_enter Try.func6, Try.ntmps6
    go_wp2
    go_ret
    exact ⟨rfl, Ext.refl w⟩
  go_enter Try.func6, Try.ntmps6
  go_upto_region 4 with (go_at_call 24; refine (spec_DrawPolicyGaps _ _ _ H.out).mono ?_; rintro e w1 ⟨v', s, vq, q, rfl, hp, hds, ⟨hq, _⟩, he⟩; obtain ⟨a0, c0, a1, c1, a2, c2, rfl, hl0, hl1, hl2⟩ := hp.openS; obtain ⟨pq, cq, rfl, hlq⟩ := hq.rs.form; have HP := Lib.hid hp.rv; have HPQ := Lib.hid hq.rs; have HE := Lib.hid he; have HDS := Lib.hid hds; clear hp he hds hq)
  refine abs_world (fun W1 => Ext w1 W1 ∧ Bk W1 w1.heap.size [.slice a0 s.Parts.length c0, .slice a1 s.Channels.length c1, .slice a2 s.Slots.length c2] 27) ⟨(Ext.refl _).alloc _, Bk.new _ _ _⟩ ?_
  rintro W1 ⟨e1, kA⟩
  have HE1 := Lib.hid (HE.out.tr e1)
  have KA := Lib.hid kA
  have hA := kA.lt
  have d0 := kA.cell (j := 0) rfl
  have d1 := kA.cell (j := 1) rfl
  have d2 := kA.cell (j := 2) rfl
  replace HP := Lib.hid (HP.out.ext e1)
  replace HPQ := Lib.hid (HPQ.out.ext e1)
  clear e1 kA HE
  have htot : GT.tot s ≤ 1048576 := Nat.le_trans HDS.out.tot (by omega)
  obtain ⟨L, hL⟩ : ∃ L, M.policyGaps s q = L := ⟨_, rfl⟩
  go_upto_region 5 with (go_at_call 22; refine (impl_PolicyGaps _ _ s q _ HP.out HPQ.out).mono ?_; rintro e w2 ⟨v2, rfl, ho, he⟩; rw [hL] at ho; obtain ⟨p2, q2, rfl, hq2⟩ := ho.rs.form; have HO := Lib.hid ho.rs; have HE2 := Lib.hid he; have KA2 := KA.out.ext he; have b0 := KA2.cell (j := 0) rfl; have b1 := KA2.cell (j := 1) rfl; have b2 := KA2.cell (j := 2) rfl; have hA2 := KA2.lt; clear ho he)
  go_upto_if 27 with (first
    | (go_at_call 25; refine (spec_PolicyGaps _ _ s q _ (HP.out.ext HE2.out) (HPQ.out.ext HE2.out) htot).mono ?_; rintro e w3 ⟨v3, rfl, ho, he⟩; rw [hL] at ho; have HO3 := Lib.hid ho; obtain ⟨p3, q3, rfl, hq3⟩ := ho.form; have HE3 := Lib.hid he; clear ho he)
    | (go_at_call 11; refine (law_sameInts _ _ L L _ (HO.out.ext HE3.out) HO3.out).mono ?_; rintro e w4 ⟨rfl, he⟩; have HE4 := Lib.hid he; clear he))
  rw [Eqb.t (rfl : L = L)]
  simp only [Bool.not_true]
  have HS := Lib.hid ((HE1.out.tr HE2.out).tr (HE3.out.tr HE4.out))
  have HX := Lib.hid (HE3.out.tr HE4.out)
  have KA4 := KA2.ext HX.out
  have f0 := KA4.cell (j := 0) rfl
  have f1 := KA4.cell (j := 1) rfl
  have f2 := KA4.cell (j := 2) rfl
  have hA4 := KA4.lt
  replace HO := Lib.hid (HO.out.ext HX.out)
  replace HPQ := Lib.hid (HPQ.out.ext (HE2.out.tr HX.out))
  replace HP := Lib.hid (HP.out.ext (HE2.out.tr HX.out))
  clear b0 b1 b2 d0 d1 d2 KA KA2 HE1 HE2 HE3 HE4 HX HO3 hA hA2 H
  obtain ⟨P, hP⟩ : ∃ P, M.leastP s = P := ⟨_, rfl⟩
  go_upto_region 8 with (go_at_call 19; refine (impl_LeastPolicy _ s _ HP.out).mono ?_; rintro e w5 ⟨v5, rfl, ho, he⟩; rw [hP] at ho; obtain ⟨p5, q5, rfl, hq5⟩ := ho.rs.form; have HLP := Lib.hid ho.rs; have HE5 := Lib.hid he; clear ho he)
  replace KA4 := Lib.hid (KA4.ext HE5.out)
  replace HS := Lib.hid (HS.out.tr HE5.out)
  replace HO := Lib.hid (HO.out.ext HE5.out)
  replace HP := Lib.hid (HP.out.ext HE5.out)
  replace HPQ := Lib.hid (HPQ.out.ext HE5.out)
  clear HE5 f0 f1 f2 hA4
  have HF : Hid (L ≠ [] → _) := Lib.hid (M.policyGaps_facts hL)
  replace hP := Lib.hid hP
  clear hL
  go_wp2
  go_loopw [7] (fun i wr => ∃ k : Nat, k ≤ L.length ∧ i = .int .i64 k ∧ Ext w5 wr) (fun i _ => L.length - (intOf i).toNat)
  case atStart => exact ⟨0, Nat.zero_le _, rfl, Ext.refl _⟩
  case round =>
    obtain ⟨k, hk, rfl, hq⟩ := hrel
    have HQ := Lib.hid hq
    clear hq
    by_cases hkt : k < L.length
    · obtain ⟨t1, t2, hp5, t3, t4⟩ := HF.out (List.length_pos_iff.1 (by omega))
      rw [hP.out] at t1
      have hPn : P.length = s.Parts.length := by rw [t1, M.least_len]
      have hqn := M.pv_len t2
      obtain ⟨bL, oL, z, hbL, ltL, hz, hcz, _⟩ := HO.out.atInt k hkt
      cases hbL
      obtain ⟨A, B, hA, hB, rfl, hl1, hl2⟩ := t3 k z hz.out
      rw [← t1] at hl1
      obtain ⟨b6, o6, ra, a6, c6, hb6, lt6, hra, hd6, hr6, _⟩ := HLP.out.atList A (by omega)
      cases hb6
      have hla : ra.length = s.Parts.length := M.least_row (by rw [← t1]; exact hra.out)
      obtain ⟨b7, o7, x, rfl, lt7, hx7, hc7⟩ := hr6.out.atBool B (by omega)
      obtain rfl : x = true := (M.at2_of hra.out hx7.out).symm.trans hl1
      obtain ⟨b8, o8, rb, a8, c8, hb8, lt8, hrb, hd8, hr8, _⟩ := HPQ.out.atList A (by omega)
      cases hb8
      have hlb : rb.length = s.Parts.length := M.pv_row t2 hrb.out
      obtain ⟨b9, o9, y, rfl, lt9, hx9, hc9⟩ := hr8.out.atBool B (by omega)
      obtain rfl : y = false := (M.at2_of hrb.out hx9.out).symm.trans hl2
      have e0 := (cell_ext HQ.out ltL).trans hcz
      have e1 := (cell_ext HQ.out lt6).trans hd6
      have e2 := (cell_ext HQ.out lt7).trans hc7
      have e3 := (cell_ext HQ.out lt8).trans hd8
      have e4 := (cell_ext HQ.out lt9).trans hc9
      have hA6 : A < P.length := by omega
      have hB6 : B < P.length := by omega
      have hA8 : A < q.length := by omega
      have hBa : B < ra.length := by omega
      have hBb : B < rb.length := by omega
      have hdiv : (10 * (A : Int) + B).tdiv 10 = A := by rw [Int.tdiv_eq_ediv_of_nonneg (by omega)]; omega
      have hmod : (10 * (A : Int) + B).tmod 10 = B := by rw [Int.tmod_eq_emod_of_nonneg (by omega)]; omega
      clear hcz hd6 hc7 hd8 hc9 t1 t2 t3 hl1 hl2 hra hrb hx7 hx9 hr6 hr8 hPn hqn hla hlb
      have g1 : decide (P.length ≤ A) = false := decide_eq_false (by omega)
      have g2 : decide (P.length ≤ B) = false := decide_eq_false (by omega)
      go_upto_region 13 with (fail)
      by_cases hk0 : k = 0
      · clear t4 hz
        have g3 : decide (0 < k) = false := decide_eq_false (by omega)
        go_big_quiet (fail)
        go_wp2
        go_roundw
        case rel => exact ⟨k + 1, by omega, by go_num, HQ.out.drewN _⟩
        case measure => simp [intOf]; omega
      · obtain ⟨K, hkK⟩ : ∃ K, k = K + 1 := ⟨k - 1, by omega⟩
        obtain ⟨bL', oL', z', hbL', ltL', hz', hcz', _⟩ := HO.out.atInt K (by omega)
        cases hbL'
        have hlt := t4 K z' _ hz'.out (hkK ▸ hz.out)
        have e5 := (cell_ext HQ.out ltL).trans hcz'
        have hk1 : (k : Int) - 1 = K := by omega
        have g3 : decide (0 < k) = true := decide_eq_true (by omega)
        have hKL : K < L.length := by omega
        replace hkK := Lib.hid hkK
        have g4 : decide (10 * (A : Int) + B ≤ z') = false := decide_eq_false (by omega)
        clear t4 hz hz' hcz'
        go_big_quiet (fail)
        go_wp2
        go_roundw
        case rel => exact ⟨k + 1, by omega, by go_num, HQ.out.drewN _⟩
        case measure => simp [intOf]; omega
    · obtain rfl : k = L.length := by omega
      have KB := KA4.out.ext HQ.out
      have f0 := KB.cell (j := 0) rfl
      have f1 := KB.cell (j := 1) rfl
      have f2 := KB.cell (j := 2) rfl
      have hB := KB.lt
      have hqu := M.policyGaps_quiet s q
      clear KB
      go_upto_region 17 with (fail)
      refine abs_world (fun W => Ext wr W ∧ Bk W wr.heap.size [.slice a0 s.Parts.length c0, .slice none 0 0, .slice a2 s.Slots.length c2] 27) ⟨(Ext.refl _).alloc _, Bk.new _ _ _⟩ ?_
      rintro W ⟨ew, kw⟩
      have g0 := kw.cell (j := 0) rfl
      have g1 := kw.cell (j := 1) rfl
      have g2 := kw.cell (j := 2) rfl
      have hW := kw.lt
      have HEW := Lib.hid (HQ.out.tr ew)
      clear ew kw HF f0 f1 f2
      go_wp2_with (first
        | (go_at_call 22; refine (impl_PolicyGaps _ _ { s with Channels := [] } q _ (HP.out.quiet.ext HEW.out) (HPQ.out.ext HEW.out)).mono ?_; rintro e w7 ⟨v7, rfl, ho, he⟩; rw [hqu] at ho; obtain ⟨p7, q7, rfl, _⟩ := ho.rs.form; have HE7 := Lib.hid (HEW.out.tr he); clear ho he)
        | (go_at_call 13; refine (law_alive _).mono ?_; rintro e w8 ⟨rfl, he⟩; have HE8 := Lib.hid (HE7.out.tr he); clear he))
      go_ret
      exact ⟨rfl, HS.out.tr HE8.out⟩
end Sk

