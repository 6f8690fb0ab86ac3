/- Contracts of functions of the given program, and lemmas for them: each theorem states the condition under which it holds. -/
import Derived.Test.YtmkibejcdldjeaaChecked
import Derived.Deep.CutBlock
import Derived.Deep.CutRange
import Derived.Test.YtmkibejcdldjeaaDrawSt
import Derived.Test.YtmkibejcdldjeaaDrawW
import Derived.Test.YtmkibejcdldjeaaSame
import Derived.Test.YtmkibejcdldjeaaNums
import Derived.Test.YtmkibejcdldjeaaClone
import Derived.Test.YtmkibejcdldjeaaNumsS
import Derived.Test.YtmkibejcdldjeaaLeastS
import Derived.Test.YtmkibejcdldjeaaBuild
import Derived.Test.YtmkibejcdldjeaaOwn
import Derived.Test.YtmkibejcdldjeaaTypes
import Derived.Test.YtmkibejcdldjeaaPol
import Derived.Test.YtmkibejcdldjeaaFlowL
import Derived.Test.YtmkibejcdldjeaaGaps
import Derived.Test.YtmkibejcdldjeaaDrawPt
import Derived.Test.YtmkibejcdldjeaaDel
import Derived.Test.YtmkibejcdldjeaaCutS
namespace Sk
open Go Go.Proofs Go.RowKit
set_option maxHeartbeats 1600000
set_option maxRecDepth 100000
set_option linter.unusedVariables false
set_option linter.unusedSimpArgs false
theorem M.drawnP.tot {ps : List (List Bool)} (h : M.drawnP ps) : GT.tot ps ≤ 1000 := by
  have := tot_list 7 6 ps h.1 (fun x hx => by
    have := tot_list 0 7 x (h.2 x hx) (fun y _ => Nat.le_refl _)
    omega)
  omega
theorem M.drawnP.least (s : Setup) : M.drawnP (M.leastP s) := by
  cases g : M.setv s
  · rw [M.leastP_f g]; exact M.drawnP.nil
  · rw [M.leastP_t g]
    have h5 := M.setv_parts g
    refine ⟨by rw [M.least_len]; omega, fun r hr => ?_⟩
    obtain ⟨k, hk⟩ := List.getElem?_of_mem hr
    rw [M.least_row hk]; omega
theorem Rsb.set3 {α : Type} [GT α] {L A : Nat} {w : World} {v u0 u1 u2 : Value} {xs : List α} (h : Rsb L w v xs) (hA : A < L) : Rsb A (((w.setCell ⟨A, 0, none⟩ u0).setCell ⟨A, 1, none⟩ u1).setCell ⟨A, 2, none⟩ u2) v xs := by
  obtain ⟨F, h1, h2⟩ := h
  have hk : ∀ k ∈ F, k ≠ A := fun k hk => by have := h2 k hk; omega
  exact ⟨F, ((h1.keep (fun k m => heap_set_ne (hk k m))).keep (fun k m => heap_set_ne (hk k m))).keep (fun k m => heap_set_ne (hk k m)), fun k m => by have := h2 k m; omega⟩
theorem spec_DrawPolicyGaps (v : Value) (xs : List By) (w : World) (h : Rs w v xs) :
    Calls Try.prog 21 #[v] w fun e w' => ∃ (v' : Value) (s : Setup) (v2 : Value) (ps : List (List Bool)), e = .returned (.tuple #[v', v2]) ∧ Rvb (α := Setup) w.heap.size w' v' s ∧ M.drawn s ∧ (Rsb w.heap.size w' v2 ps ∧ M.drawnP ps) ∧ Ext w w' := by
  have H := Lib.hid h
  clear h
  go_enter Try.func21, Try.ntmps21
  go_upto_region 1 with (fail)
  refine abs_world (fun W0 => Ext w W0 ∧ Bk W0 w.heap.size [.slice none 0 0, .slice none 0 0, .slice none 0 0] 27) ⟨(Ext.refl _).alloc _, Bk.new _ _ _⟩ ?_
  rintro W0 ⟨e0, kA⟩
  have HE0 := Lib.hid e0
  have KA := Lib.hid kA
  have hA := kA.lt
  clear e0 kA
  go_upto_region 3 with (first
    | (go_at_call 42; refine (spec_l20Setup W0 _ b 100 _ HR.out (by omega) (by omega)).mono ?_; rintro e w2 ⟨v2, s, rfl, hv, hds, hm, hr⟩; obtain ⟨a0, c0, a1, c1, a2, c2, rfl, hl0, hl1, hl2⟩ := hv.openS; have KA2 := Lib.hid (hm.bk (KA.out.ext HE.out) (by simp <;> omega)); have HV := Lib.hid hv; have HDS := Lib.hid hds; have HR2 := Lib.hid hr; have HM2 := Lib.hid (hm.ext (HE0.out.tr HE.out) (by simp <;> omega)); have hs2 := hm.size; clear hm hr hv hds)
    | (go_at_call 41; refine (spec_l20Open _ _ _ (H.out.ext HE0.out)).mono ?_; rintro e w1 ⟨b, rfl, hb, he, hr⟩; have HE := Lib.hid he; have hs1 := he.sz; have hb1 := hr.lt; have HR : Hid (Rd W0 w1 b (100 + 500)) := Lib.hid (hr.le (by omega)); clear he hr))
  refine abs_world (fun W2 => Ext w2 W2 ∧ Bk W2 w2.heap.size [.slice a0 s.Parts.length c0, .slice a1 s.Channels.length c1, .slice a2 s.Slots.length c2] 27) ⟨(Ext.refl _).alloc _, Bk.new _ _ _⟩ ?_
  rintro W2 ⟨e2, kB⟩
  have hW2 := e2.sz
  have HE2 := Lib.hid (HM2.out.tr e2)
  replace KA2 := Lib.hid (KA2.out.ext e2)
  replace HV := Lib.hid (HV.out.ext e2)
  replace HR2 : Hid (Rd W0 W2 b (40 + 60)) := Lib.hid (HR2.out.ext e2)
  have KB := Lib.hid kB
  have f0 := kB.cell (j := 0) rfl
  have hBl := kB.lt
  clear e2 kB HM2 HR KA
  have hp6 : s.Parts.length ≤ 6 := HDS.out.1
  go_upto_if 17 with (first
    | (go_at_call 51; refine (spec_odd W0 _ b 39 _ HR3.out (rng_sm (by omega) (by omega))).mono ?_; rintro e w4 ⟨⟨q, rfl⟩, hm, hr⟩; have hm := Mw.ofMo hm; have HE4 := Lib.hid (hm.ext HE3.out (by simp <;> omega)); have KA4 := hm.bk KA3.out (by simp <;> omega); have KB4 := hm.bk KB3.out (by simp <;> omega); have HV4 := Lib.hid (HV3.out.mw hm (by simpa using hb1)); have HP4 := Lib.hid (HP3.out.mw hm (by simp <;> omega)); clear hm hr)
    | (go_at_call 50; refine (spec_l20Policy W0 _ b 40 s.Parts.length 14 HR2.out hp6 (by omega) (by omega)).mono ?_; rintro e w3 ⟨v3, ps, rfl, hp, hpl, hm, hr⟩; have HDP := Lib.hid hpl; have HR3 : Hid (Rd W0 w3 b (39 + 1)) := Lib.hid hr; have HE3 := Lib.hid (hm.ext HE2.out (by simp <;> omega)); have KA3 := Lib.hid (hm.bk KA2.out (by simp <;> omega)); have KB3 := Lib.hid (hm.bk KB.out (by simp <;> omega)); have HV3 := Lib.hid (HV.out.mw hm (by simpa using hb1)); have HP3 := Lib.hid hp; obtain ⟨p3, n3, q3, rfl⟩ : ∃ a n c, v3 = .slice a n c := (by obtain ⟨a, c, h, _⟩ := hp.form; exact ⟨_, _, _, h⟩); clear hp hm hr))
  have b0 := KB4.cell (j := 0) rfl
  have b1 := KB4.cell (j := 1) rfl
  have b2 := KB4.cell (j := 2) rfl
  have hB4 := KB4.lt
  cases q
  · have d0 := KA4.cell (j := 0) rfl
    have d1 := KA4.cell (j := 1) rfl
    have d2 := KA4.cell (j := 2) rfl
    have df := KA4.fz
    have dl := KA4.lt
    go_wp2
    refine bodyPost_ret (v := .tuple #[.agg #[.slice a0 s.Parts.length c0, .slice a1 s.Channels.length c1, .slice a2 s.Slots.length c2], .slice p3 n3 q3]) (by simp [results, Try.results21, go_sem, d0, d1, d2]) rfl ⟨_, s, _, ps, rfl, ?_, HDS.out, ⟨?_, HDP.out⟩, ?_⟩
    · exact ((((HV4.out.set (p := ⟨w.heap.size, 0, none⟩) (by show w.heap.size < w1.heap.size; omega) _).set (p := ⟨w.heap.size, 1, none⟩) (by show w.heap.size < w1.heap.size; omega) _).set (p := ⟨w.heap.size, 2, none⟩) (by show w.heap.size < w1.heap.size; omega) _).mono (by omega))
    · exact (HP4.out.set3 (by omega))
    · exact (((HE4.out.set (Nat.le_refl _) _).set (Nat.le_refl _) _).set (Nat.le_refl _) _)
  · have htot : GT.tot s ≤ 1048576 := Nat.le_trans HDS.out.tot (by omega)
    go_wp2_with (go_at_call 52; refine (spec_LeastPolicy _ s _ HV4.out.rv htot).mono ?_; rintro e w5 ⟨v5, rfl, ho, he⟩; obtain ⟨p5, n5, q5, rfl⟩ := ho.sh; have HP5 := Lib.hid ho.rsb; have HV5 := Lib.hid (HV4.out.ext he); have HE5 := Lib.hid (HE4.out.tr he); have KA5 := KA4.ext he; have KB5 := KB4.ext he; have b0 := KB5.cell (j := 0) rfl; have b1 := KB5.cell (j := 1) rfl; have b2 := KB5.cell (j := 2) rfl; have hB5 := KB5.lt; have d0 := KA5.cell (j := 0) rfl; have d1 := KA5.cell (j := 1) rfl; have d2 := KA5.cell (j := 2) rfl; have df := KA5.fz; have dl := KA5.lt; clear ho he)
    refine bodyPost_ret (v := .tuple #[.agg #[.slice a0 s.Parts.length c0, .slice a1 s.Channels.length c1, .slice a2 s.Slots.length c2], .slice p5 n5 q5]) (by simp [results, Try.results21, go_sem, d0, d1, d2]) rfl ⟨_, s, _, M.leastP s, rfl, ?_, HDS.out, ⟨?_, M.drawnP.least s⟩, ?_⟩
    · exact ((((HV5.out.set (p := ⟨w.heap.size, 0, none⟩) (by show w.heap.size < w1.heap.size; omega) _).set (p := ⟨w.heap.size, 1, none⟩) (by show w.heap.size < w1.heap.size; omega) _).set (p := ⟨w.heap.size, 2, none⟩) (by show w.heap.size < w1.heap.size; omega) _).mono (by omega))
    · exact (HP5.out.set3 (by omega))
    · exact (((HE5.out.set (Nat.le_refl _) _).set (Nat.le_refl _) _).set (Nat.le_refl _) _)
theorem spec_DrawCutChannels (v : Value) (xs : List By) (w : World) (h : Rs w v xs) :
    Calls Try.prog 7 #[v] w fun e w' => ∃ (v' : Value) (s : Setup) (v2 : Value) (ps : List (List Bool)), e = .returned (.tuple #[v', v2]) ∧ Rvb (α := Setup) w.heap.size w' v' s ∧ M.drawn s ∧ (Rsb w.heap.size w' v2 ps ∧ M.drawnP ps) ∧ Ext w w' := by
  have H := Lib.hid h
  clear h
  go_enter Try.func7, Try.ntmps7
  go_upto_region 1 with (fail)
  refine abs_world (fun W0 => Ext w W0 ∧ Bk W0 w.heap.size [.slice none 0 0, .slice none 0 0, .slice none 0 0] 27) ⟨(Ext.refl _).alloc _, Bk.new _ _ _⟩ ?_
  rintro W0 ⟨e0, kA⟩
  have HE0 := Lib.hid e0
  have KA := Lib.hid kA
  have hA := kA.lt
  clear e0 kA
  go_wp2_with (go_at_call 21; refine (spec_DrawPolicyGaps _ _ _ (H.out.ext HE0.out)).mono ?_; rintro e w1 ⟨v1, s, v2, ps, rfl, hv, hds, ⟨hp, hdp⟩, he⟩; have HDP := Lib.hid hdp; obtain ⟨a0, c0, a1, c1, a2, c2, rfl, hl0, hl1, hl2⟩ := hv.openS; obtain ⟨p3, n3, q3, rfl⟩ : ∃ a n c, v2 = .slice a n c := (by obtain ⟨a, c, h, _⟩ := hp.form; exact ⟨_, _, _, h⟩); have KA4 := KA.out.ext he; have d0 := KA4.cell (j := 0) rfl; have d1 := KA4.cell (j := 1) rfl; have d2 := KA4.cell (j := 2) rfl; have df := KA4.fz; have dl := KA4.lt; have HV4 := Lib.hid hv; have HP4 := Lib.hid hp; have HDS := Lib.hid hds; have HE4 := Lib.hid (HE0.out.tr he); clear hv hp hds he)
  refine bodyPost_ret (v := .tuple #[.agg #[.slice a0 s.Parts.length c0, .slice a1 s.Channels.length c1, .slice a2 s.Slots.length c2], .slice p3 n3 q3]) (by simp [results, Try.results7, go_sem, d0, d1, d2]) rfl ⟨_, s, _, ps, rfl, ?_, HDS.out, ⟨?_, HDP.out⟩, ?_⟩
  · exact ((((HV4.out.set (p := ⟨w.heap.size, 0, none⟩) hA _).set (p := ⟨w.heap.size, 1, none⟩) hA _).set (p := ⟨w.heap.size, 2, none⟩) hA _).mono (by omega))
  · exact (HP4.out.set3 (by omega))
  · exact (((HE4.out.set (Nat.le_refl _) _).set (Nat.le_refl _) _).set (Nat.le_refl _) _)
end Sk

namespace Sk
open Go Go.Proofs Go.RowKit
set_option maxHeartbeats 1600000
set_option maxRecDepth 100000
set_option linter.unusedVariables false
set_option linter.unusedSimpArgs false
theorem rs_one {w : World} {T : TypeId} {z : Int} (h : rng z) : Rs (w.alloc (.cells #[.int .i64 z] T)) (.slice (some ⟨w.heap.size, 0, none⟩) 1 1) [z] :=
  ⟨[w.heap.size], _, 1, rfl, by simp, by unfold maxLen; omega, .inr ⟨by simp, w.heap.size, 0, [], rfl, rfl, Row.lit1 (cs := [.int .i64 z]) ⟨rfl, h, rfl⟩⟩⟩
theorem Rs.row {α : Type} [GT α] [Fl α] {w : World} {a : Option Addr} {n c : Nat} {xs : List α} (h : Rs w (.slice a n c) xs) (hx : 0 < xs.length) : ∃ g o, a = some ⟨g, o, none⟩ ∧ n = xs.length ∧ Row w g o xs [] := by
  obtain ⟨F, a', c', he, hl, hc, hr⟩ := h
  cases he
  rcases hr with ⟨rfl, _⟩ | ⟨_, b, o, F', rfl, rfl, hr⟩
  · cases hx
  · have := hr.fl
    subst this
    exact ⟨b, o, rfl, rfl, hr⟩
theorem Os.own1 {α : Type} [GT α] [Fl α] {e : TypeId} {L : Nat} {w : World} {v : Value} {xs : List α} (h : Oo e L w v xs) : ∃ F, GT.enc w [v] xs F ∧ Own L w F := by
  obtain ⟨F, h1, h2⟩ := h.os
  exact ⟨F, ⟨v, rfl, h1⟩, h2⟩
end Sk

namespace Sk
open Go Go.Proofs Go.RowKit
set_option maxHeartbeats 800000
set_option maxRecDepth 100000
set_option linter.unusedVariables false
set_option linter.unusedSimpArgs false
theorem Mx.own {F G : List Nat} {L : Nat} {a b : World} (h : Mx F a b) (ho : Own L a G) : Own L b G := ⟨ho.1, fun x hx => ⟨(ho.2 x hx).1, h.2.2.2 x (ho.2 x hx).2⟩⟩
theorem mkT_ct_Setup (x : Setup) (k : Int) : (x.mkT k).ctT = x.ctT := GT.mkE_ct _ _
theorem mkT_idem_Setup (x : Setup) (k : Int) : (x.mkT k).mkT k = x.mkT k := GT.mkE_idem _ _
theorem mkT_ct_Board (x : Board) (k : Int) : (x.mkT k).ctT = x.ctT := GT.mkE_ct _ _
theorem mkT_idem_Board (x : Board) (k : Int) : (x.mkT k).mkT k = x.mkT k := GT.mkE_idem _ _
theorem mkT_ct_Machine (x : Machine) (k : Int) : (x.mkT k).ctT = x.ctT := by simp only [Machine.mkT, Machine.ctT, GT.mkE_ct]
theorem mkT_idem_Machine (x : Machine) (k : Int) : (x.mkT k).mkT k = x.mkT k := by simp only [Machine.mkT, GT.mkE_ct, GT.mkE_idem]
theorem mkT_ct_Watch (x : Watch) (k : Int) : (x.mkT k).ctT = x.ctT := by simp only [Watch.mkT, Watch.ctT, GT.mkE_ct, mkT_ct_Machine]
theorem mkT_idem_Watch (x : Watch) (k : Int) : (x.mkT k).mkT k = x.mkT k := by simp only [Watch.mkT, mkT_ct_Machine, mkT_idem_Machine, GT.mkE_idem]
end Sk

namespace Sk
open Go Go.Proofs Go.RowKit
set_option maxHeartbeats 3000000
set_option maxRecDepth 100000
set_option linter.unusedVariables false
set_option linter.unusedSimpArgs false
/-- How far the influences of a policy were seen to go on. -/
def OnTo (q : List (List Bool)) (n ka kb kc : Nat) (o : Bool) : Prop :=
  o = true → ∀ a b c, a < n → b < n → c < n → (a < ka ∨ (a = ka ∧ (b < kb ∨ (b = kb ∧ c < kc)))) → M.at2 q a b = true → M.at2 q b c = true → M.at2 q a c = true
theorem OnTo.zero (q : List (List Bool)) (n : Nat) (o : Bool) : OnTo q n 0 0 0 o := fun _ a b c _ _ _ h => by omega
theorem OnTo.off (q : List (List Bool)) (n ka kb kc : Nat) : OnTo q n ka kb kc false := fun h => by cases h
theorem OnTo.nextA {q : List (List Bool)} {n ka : Nat} {o : Bool} (h : OnTo q n ka n 0 o) : OnTo q n (ka + 1) 0 0 o :=
  fun ho a b c ha hb hc hk => h ho a b c ha hb hc (by omega)
theorem OnTo.nextB {q : List (List Bool)} {n ka kb : Nat} {o : Bool} (h : OnTo q n ka kb n o) : OnTo q n ka (kb + 1) 0 o :=
  fun ho a b c ha hb hc hk => h ho a b c ha hb hc (by omega)
theorem OnTo.nextC {q : List (List Bool)} {n ka kb kc : Nat} {o : Bool} (h : OnTo q n ka kb kc o) (hk : M.at2 q ka kb = true → M.at2 q kb kc = true → M.at2 q ka kc = true) : OnTo q n ka kb (kc + 1) o :=
  fun ho a b c ha hb hc hk2 h1 h2 => by
    by_cases he : a = ka ∧ b = kb ∧ c = kc
    · obtain ⟨rfl, rfl, rfl⟩ := he; exact hk h1 h2
    · exact h ho a b c ha hb hc (by omega) h1 h2
theorem OnTo.all {q : List (List Bool)} {n : Nat} {o : Bool} (h : OnTo q n n 0 0 o) (ho : o = true) : ∀ a b c, a < n → b < n → c < n → M.at2 q a b = true → M.at2 q b c = true → M.at2 q a c = true :=
  fun a b c ha hb hc => h ho a b c ha hb hc (by omega)
end Sk

namespace Sk
open Go Go.Proofs Go.RowKit
set_option maxHeartbeats 3000000
set_option maxRecDepth 100000
set_option linter.unusedVariables false
set_option linter.unusedSimpArgs false
theorem lawPolicyAll (v : Value) (xs : List By) (w : World) (h : Rs w v xs) :
    Calls Try.prog 4 #[v] w fun e w' => e = .returned (.bool true) ∧ Ext w w' := by
  obtain ⟨a, c, rfl, hl⟩ := h.form
  have H := Lib.hid h
  clear h
  by_cases hx : xs.length ≤ 1048576
  rotate_left
  · have hx2 : 1048576 < xs.length := by omega
    clear hx
    go_enter Try.func4, Try.ntmps4
    go_wp2
    go_ret
    exact ⟨rfl, Ext.refl w⟩
  go_enter Try.func4, Try.ntmps4
  go_upto_region 4 with (go_at_call 7; refine (spec_DrawCutChannels _ _ _ H.out).mono ?_; rintro e w1 ⟨v', s, vq, q, rfl, hp, hds, ⟨hq, hdp⟩, he⟩; obtain ⟨a0, c0, a1, c1, a2, c2, rfl, hl0, hl1, hl2⟩ := hp.openS; obtain ⟨pq, cq, rfl, hlq⟩ := hq.rs.form; have HP := Lib.hid hp.rv; have HPQ := Lib.hid hq.rs; have HE := Lib.hid he; have HDS := Lib.hid hds; have HDP := Lib.hid hdp; clear hp he hds hq hdp)
  refine abs_world (fun W1 => Ext w1 W1 ∧ Bk W1 w1.heap.size [.slice a0 s.Parts.length c0, .slice a1 s.Channels.length c1, .slice a2 s.Slots.length c2] 27) ⟨(Ext.refl _).alloc _, Bk.new _ _ _⟩ ?_
  rintro W1 ⟨e1, kA⟩
  have HE1 := Lib.hid (HE.out.tr e1)
  have KA := Lib.hid kA
  have hA := kA.lt
  have d0 := kA.cell (j := 0) rfl
  have d1 := kA.cell (j := 1) rfl
  have d2 := kA.cell (j := 2) rfl
  replace HP := Lib.hid (HP.out.ext e1)
  replace HPQ := Lib.hid (HPQ.out.ext e1)
  clear e1 kA HE
  have htot : GT.tot s ≤ 1048576 := Nat.le_trans HDS.out.tot (by omega)
  have htq : GT.tot q ≤ 1048576 := Nat.le_trans HDP.out.tot (by omega)
  obtain ⟨x, hX⟩ : ∃ x, M.cut s q = x := ⟨_, rfl⟩
  go_upto_region 5 with (go_at_call 8; refine (impl_CutChannels _ _ s q _ HP.out HPQ.out htot).mono ?_; rintro e w2 ⟨v2, rfl, ho, he⟩; rw [hX] at ho; obtain ⟨x0, y0, x1, y1, x2, y2, rfl, _⟩ := ho.rv.openSetup; have HO := Lib.hid ho.rv; have HE2 := Lib.hid he; clear ho he)
  refine abs_world (fun W2 => Ext w2 W2 ∧ Bk W2 w2.heap.size [.slice x0 x.Parts.length y0, .slice x1 x.Channels.length y1, .slice x2 x.Slots.length y2] 27) ⟨(Ext.refl _).alloc _, Bk.new _ _ _⟩ ?_
  rintro W2 ⟨e2, kB⟩
  have KA2 := KA.out.ext (HE2.out.tr e2)
  have a20 := KA2.cell (j := 0) rfl
  have a21 := KA2.cell (j := 1) rfl
  have a22 := KA2.cell (j := 2) rfl
  have hA2 := KA2.lt
  have b20 := kB.cell (j := 0) rfl
  have b21 := kB.cell (j := 1) rfl
  have b22 := kB.cell (j := 2) rfl
  have hB2 := kB.lt
  replace HO := Lib.hid (HO.out.ext e2)
  replace HP := Lib.hid (HP.out.ext (HE2.out.tr e2))
  replace HPQ := Lib.hid (HPQ.out.ext (HE2.out.tr e2))
  have HS := Lib.hid (HE1.out.tr (HE2.out.tr e2))
  have KB := Lib.hid kB
  replace KA2 := Lib.hid KA2
  obtain ⟨N, hN⟩ : ∃ N, M.numbers x = N := ⟨_, rfl⟩
  clear e2 kB HE1 HE2 KA hA d0 d1 d2 H
  go_region_held3 (fun u => u.cell? ⟨w1.heap.size, 0, none⟩ = some (.slice a0 s.Parts.length c0) ∧ u.cell? ⟨w1.heap.size, 1, none⟩ = some (.slice a1 s.Channels.length c1) ∧ u.cell? ⟨w1.heap.size, 2, none⟩ = some (.slice a2 s.Slots.length c2) ∧ u.cell? ⟨w2.heap.size, 0, none⟩ = some (.slice x0 x.Parts.length y0) ∧ u.cell? ⟨w2.heap.size, 1, none⟩ = some (.slice x1 x.Channels.length y1) ∧ u.cell? ⟨w2.heap.size, 2, none⟩ = some (.slice x2 x.Slots.length y2))
    (first
      | go_keep
      | exact ⟨(cell_ext HE4.out hA2).trans a20, (cell_ext HE4.out hA2).trans a21, (cell_ext HE4.out hA2).trans a22, (cell_ext HE4.out hB2).trans b20, (cell_ext HE4.out hB2).trans b21, (cell_ext HE4.out hB2).trans b22⟩)
    (first
      | (go_at_call 9; refine (law_sameInts _ _ N N _ HO4.out HO5.out).mono ?_; rintro e w6 ⟨rfl, he⟩; rw [Eqb.t (rfl : N = N)]; replace HE4 := Lib.hid (HE4.out.tr he); clear he)
      | (go_at_call 11; refine (spec_SetupNumbers _ x _ HX5.out).mono ?_; rintro e w5 ⟨v5, rfl, ho, he⟩; rw [hN] at ho; have HO5 := Lib.hid ho.rs; replace HO4 := Lib.hid (HO4.out.ext he); replace HE4 := Lib.hid (HE4.out.tr he); clear ho he)
      | (go_at_call 12; refine (spec_CutChannels _ _ s q _ (HP.out.ext HE4.out) (HPQ.out.ext HE4.out) htot htq).mono ?_; rintro e w45 ⟨v45, rfl, ho, he⟩; rw [hX] at ho; have HX5 := Lib.hid ho; replace HO4 := Lib.hid (HO4.out.ext he); replace HE4 := Lib.hid (HE4.out.tr he); clear ho he)
      | (go_at_call 10; refine (impl_SetupNumbers _ x _ (HO.out.ext (Ext.refl W2).drew)).mono ?_; rintro e w4 ⟨v4, rfl, ho, he⟩; rw [hN] at ho; have HO4 := Lib.hid ho.rs; have HE4 := Lib.hid ((Ext.refl W2).drew.tr he); clear ho he))
  have HS6 := Lib.hid (HS.out.tr HE4.out)
  replace KA2 := Lib.hid (KA2.out.ext HE4.out)
  replace KB := Lib.hid (KB.out.ext HE4.out)
  have f0 := KA2.out.cell (j := 0) rfl
  have f1 := KA2.out.cell (j := 1) rfl
  have f2 := KA2.out.cell (j := 2) rfl
  have hA6 := KA2.out.lt
  replace HO := Lib.hid (HO.out.ext HE4.out)
  replace HP := Lib.hid (HP.out.ext HE4.out)
  replace HPQ := Lib.hid (HPQ.out.ext HE4.out)
  clear HO4 HO5 HX5 HS a20 a21 a22 b20 b21 b22 hA2 hB2 HE4
  cases g : M.setv s
  · go_wp2_with (first
      | (go_at_call 16; refine (spec_SetupValid _ s _ HP.out).mono ?_; rintro e w7 ⟨rfl, he⟩; rw [g]; have HE7 := Lib.hid he; clear he)
      | (go_at_call 13; refine (law_alive _).mono ?_; rintro e w8 ⟨rfl, he⟩; have HE8 := Lib.hid (HE7.out.tr he); clear he))
    go_ret
    exact ⟨rfl, HS6.out.tr HE8.out⟩
  have hp5 := M.setv_parts g
  replace g := Lib.hid g
  go_upto_block 0 with (go_at_call 16; refine (spec_SetupValid _ s _ HP.out).mono ?_; rintro e w7 ⟨rfl, he⟩; rw [g.out]; have HE7 := Lib.hid he; have k0 := (KA2.out.ext he).cell (j := 0) rfl; have hA7 := (KA2.out.ext he).lt; clear he)
  refine abs_world (fun W0 => Ext w7 W0 ∧ Oo (α := List Bool) 36 w7.heap.size W0 (.slice (some ⟨w7.heap.size, 0, none⟩) 0 0) []) ⟨(Ext.refl _).alloc _, Oo.lit0 _ _⟩ ?_
  rintro W0 ⟨e0, ho0⟩
  have HW0 := Lib.hid e0
  have HL0 := Lib.hid ho0
  clear e0 ho0 f0 f1 f2
  go_wp2_with fail
  go_loopw [6, 7] (fun v6 i wr => ∃ (k : Nat) (ao : Option Addr) (no co : Nat), k ≤ s.Parts.length ∧ i = .int .i64 k ∧ v6 = .slice ao no co ∧ Oo 36 w7.heap.size wr (.slice ao no co) (List.replicate k (List.replicate s.Parts.length true)) ∧ Ext w7 wr) (fun _ i _ => s.Parts.length - (intOf i).toNat)
  case atStart => exact ⟨0, _, _, _, Nat.zero_le _, rfl, rfl, HL0.out, HW0.out⟩
  case round =>
    clear HL0 HW0
    obtain ⟨k, ao, no, co, hk, rfl, rfl, ho, hq⟩ := hrel
    have f0 := (cell_ext hq hA7).trans k0
    have HQ := Lib.hid hq
    have HO6 := Lib.hid ho
    have hsz := hq.sz
    have hA8 := Nat.lt_of_lt_of_le hA7 hsz
    clear hq ho
    obtain ⟨wo, rfl⟩ : ∃ wo, wo = wr := ⟨_, rfl⟩
    by_cases hkt : k < s.Parts.length
    · go_upto_block 2 with (fail)
      refine abs_world (fun W1 => Ext wo W1 ∧ Oo (α := Bool) 4 wo.heap.size W1 (.slice (some ⟨wo.heap.size, 0, none⟩) 0 0) []) ⟨(Ext.refl _).alloc _, Oo.lit0 _ _⟩ ?_
      rintro W1 ⟨e1, ho1⟩
      have HW1 := Lib.hid e1
      have HL1 := Lib.hid ho1
      clear e1 ho1
      go_wp2_with fail
      go_loopw [8, 9] (fun v8 i wr => ∃ (j : Nat) (a8 : Option Addr) (n8 c8 : Nat), j ≤ s.Parts.length ∧ i = .int .i64 j ∧ v8 = .slice a8 n8 c8 ∧ Oo 4 wo.heap.size wr (.slice a8 n8 c8) (List.replicate j true) ∧ Ext wo wr) (fun _ i _ => s.Parts.length - (intOf i).toNat)
      case atStart => exact ⟨0, _, _, _, Nat.zero_le _, rfl, rfl, HL1.out, HW1.out⟩
      case round =>
        clear HL1 HW1
        obtain ⟨j, a8, n8, c8, hj, rfl, rfl, ho, hq⟩ := hrel
        have e0 := (cell_ext hq hA8).trans f0
        have HQ8 := Lib.hid hq
        have HO8 := Lib.hid ho
        have hsz8 := hq.sz
        clear hq ho
        obtain ⟨wi, rfl⟩ : ∃ wi, wi = wr := ⟨_, rfl⟩
        by_cases hjt : j < s.Parts.length
        · go_wp2_with (at_builtin; refine wpl_appO (u := wi) (α := Bool) rfl _ _ 36 rfl 4 Try.underlying36 elBool (v := .slice a8 n8 c8) (ys := [true]) rfl HO8.out ((Ext.refl _).alloc _) hsz8 rfl rfl (Row.lit1 (cs := [_]) ⟨rfl, rfl⟩) (by simp) (Own.nil _ _) (by simp; omega) ?_; intro v5 w5 hO5 hg5; have HO5 := Lib.hid hO5; have HE5 := Lib.hid (Ext.grown (HQ8.out.alloc _) hg5 HO8.out.own); obtain ⟨p5, n5, q5, rfl⟩ := hO5.sh; clear hO5 hg5)
          go_roundw
          case rel => exact ⟨j + 1, _, _, _, by omega, by go_num, rfl, by rw [List.replicate_succ']; exact HO5.out, HE5.out⟩
          case measure => simp [intOf]; omega
        · obtain rfl : j = s.Parts.length := by omega
          obtain ⟨F5, henc5, hown5⟩ := Os.own1 HO8.out
          go_wp2_with (at_builtin; refine wpl_appO (u := wo) (α := List Bool) rfl _ _ 28 rfl 36 Try.underlying28 elBoolS (v := .slice ao no co) (ys := [List.replicate s.Parts.length true]) rfl HO6.out (HQ8.out.alloc _) hsz rfl rfl (Row.lit1 (cs := [_]) henc5) (by simp) (hown5.ext ((Ext.refl _).alloc _)) (by simp; omega) ?_; intro v5 w5 hO5 hg5; have HO5 := Lib.hid hO5; have HE5 := Lib.hid (Ext.grown ((HQ.out.tr HQ8.out).alloc _) hg5 HO6.out.own); obtain ⟨p5, n5, q5, rfl⟩ := hO5.sh; clear hO5 hg5)
          go_roundw
          case rel => exact ⟨k + 1, _, _, _, by omega, by go_num, rfl, by rw [List.replicate_succ']; exact HO5.out, HE5.out⟩
          case measure => simp [intOf]; omega
    · obtain rfl : k = s.Parts.length := by omega
      have HAL := Lib.hid (show Rs wo (.slice ao no co) (M.allP s.Parts.length) from HO6.out.rs)
      have KA9 := KA2.out.ext (HE7.out.tr HQ.out)
      have KB9 := KB.out.ext (HE7.out.tr HQ.out)
      have a10 := KA9.cell (j := 0) rfl
      have a11 := KA9.cell (j := 1) rfl
      have a12 := KA9.cell (j := 2) rfl
      have b10 := KB9.cell (j := 0) rfl
      have b11 := KB9.cell (j := 1) rfl
      have b12 := KB9.cell (j := 2) rfl
      have hA10 := KA9.lt
      have hB10 := KB9.lt
      have htA := M.allP_tot (n := s.Parts.length) (by omega)
      have hgA := M.allP_gaps (s := s)
      have hcA := M.allP_cut g.out
      generalize M.allP s.Parts.length = al at *
      replace hgA := Lib.hid hgA
      replace hcA := Lib.hid hcA
      replace HP := Lib.hid (HP.out.ext (HE7.out.tr HQ.out))
      replace HPQ := Lib.hid (HPQ.out.ext (HE7.out.tr HQ.out))
      replace HO := Lib.hid (HO.out.ext (HE7.out.tr HQ.out))
      replace HS6 := Lib.hid (HS6.out.tr (HE7.out.tr HQ.out))
      obtain ⟨Ns, hNs⟩ : ∃ N, M.numbers s = N := ⟨_, rfl⟩
      replace hX := Lib.hid hX
      clear KA9 KB9 KA2 KB HO6 HQ HE7 f0 hA7 k0 hkt
      go_upto_region 19 with (fail)
      by_cases hsl : x.Slots = []
      · obtain ⟨m, hm⟩ : ∃ m, x.Slots.length = m := ⟨_, rfl⟩
        have hmz : ((m : Int) == 0) = true := by rw [← hm, hsl]; rfl
        rw [hm] at b12
        clear hsl hm
        first
          | (go_region_held3 (fun u => u.cell? ⟨w1.heap.size, 0, none⟩ = some (.slice a0 s.Parts.length c0) ∧ u.cell? ⟨w1.heap.size, 1, none⟩ = some (.slice a1 s.Channels.length c1) ∧ u.cell? ⟨w1.heap.size, 2, none⟩ = some (.slice a2 s.Slots.length c2) ∧ u.cell? ⟨w2.heap.size, 0, none⟩ = some (.slice x0 x.Parts.length y0) ∧ u.cell? ⟨w2.heap.size, 1, none⟩ = some (.slice x1 x.Channels.length y1) ∧ u.cell? ⟨w2.heap.size, 2, none⟩ = some (.slice x2 m y2))
              (first
                | go_keep
                | exact ⟨(cell_ext HE1.out hA10).trans a10, (cell_ext HE1.out hA10).trans a11, (cell_ext HE1.out hA10).trans a12, (cell_ext HE1.out hB10).trans b10, (cell_ext HE1.out hB10).trans b11, (cell_ext HE1.out hB10).trans b12⟩)
              (first
                | (go_at_call 9; refine (law_sameInts _ _ Ns Ns _ HO3.out HO4.out).mono ?_; rintro e w15 ⟨rfl, he⟩; rw [Eqb.t (rfl : Ns = Ns)]; replace HE1 := Lib.hid (HE1.out.tr he); clear he)
                | (go_at_call 10; refine (impl_SetupNumbers _ s w13 (HP.out.ext HE1.out)).mono ?_; rintro e w14 ⟨v14, rfl, ho, he⟩; rw [hNs] at ho; have HO4 := Lib.hid ho.rs; replace HO3 := Lib.hid (HO3.out.ext he); replace HE1 := Lib.hid (HE1.out.tr he); clear ho he)
                | (go_at_call 10; refine (impl_SetupNumbers _ s _ HX2.out).mono ?_; rintro e w13 ⟨v13, rfl, ho, he⟩; rw [hNs] at ho; have HO3 := Lib.hid ho.rs; replace HE1 := Lib.hid (HE1.out.tr he); clear ho he)
                | (go_at_call 8; refine (impl_CutChannels _ _ s al _ (HP.out.ext HE1.out) (HAL.out.ext HE1.out) htot).mono ?_; rintro e w12 ⟨v12, rfl, ho, he⟩; rw [hcA.out] at ho; have HX2 := Lib.hid ho.rv; replace HE1 := Lib.hid (HE1.out.tr he); clear ho he)
                | (go_at_call 15; refine (impl_PolicyGaps _ _ s al _ (HP.out.ext (Ext.refl wo).drew) (HAL.out.ext (Ext.refl wo).drew)).mono ?_; rintro e w11 ⟨v11, rfl, ho, he⟩; rw [hgA.out] at ho; obtain ⟨p11, q11, rfl, _⟩ := ho.rs.form; have HE1 := Lib.hid ((Ext.refl wo).drew.tr he); clear ho he)))
          | fail
        all_goals
          go_wp2
          go_ret
          exact ⟨rfl, HS6.out.tr HE1.out⟩
      · have hcT := Lib.hid (M.cut_twice hX.out hsl)
        have htx : GT.tot x ≤ 1048576 := by have := (HDS.out.cut q).tot; rw [hX.out] at this; omega
        have hsp : x.Slots.length ≠ 0 := fun h => hsl (List.length_eq_zero_iff.1 h)
        have hzi : ((x.Slots.length : Int) == 0) = false := beq_eq_false_iff_ne.2 (by omega)
        clear hsl hsp
        go_region_held3 (fun u => u.cell? ⟨w1.heap.size, 0, none⟩ = some (.slice a0 s.Parts.length c0) ∧ u.cell? ⟨w1.heap.size, 1, none⟩ = some (.slice a1 s.Channels.length c1) ∧ u.cell? ⟨w1.heap.size, 2, none⟩ = some (.slice a2 s.Slots.length c2) ∧ u.cell? ⟨w2.heap.size, 0, none⟩ = some (.slice x0 x.Parts.length y0) ∧ u.cell? ⟨w2.heap.size, 1, none⟩ = some (.slice x1 x.Channels.length y1) ∧ u.cell? ⟨w2.heap.size, 2, none⟩ = some (.slice x2 x.Slots.length y2))
          (first
            | go_keep
            | exact ⟨(cell_ext HE1.out hA10).trans a10, (cell_ext HE1.out hA10).trans a11, (cell_ext HE1.out hA10).trans a12, (cell_ext HE1.out hB10).trans b10, (cell_ext HE1.out hB10).trans b11, (cell_ext HE1.out hB10).trans b12⟩)
          (first
            | (go_at_call 9; refine (law_sameInts _ _ N N w18 HO7.out HO8.out).mono ?_; rintro e w19 ⟨rfl, he⟩; rw [Eqb.t (rfl : N = N)]; replace HE1 := Lib.hid (HE1.out.tr he); clear he)
            | (go_at_call 10; refine (impl_SetupNumbers _ x w17 (HO.out.ext HE1.out)).mono ?_; rintro e w18 ⟨v18, rfl, ho, he⟩; rw [hN] at ho; have HO8 := Lib.hid ho.rs; replace HO7 := Lib.hid (HO7.out.ext he); replace HE1 := Lib.hid (HE1.out.tr he); clear ho he)
            | (go_at_call 10; refine (impl_SetupNumbers _ x w16 HX6.out).mono ?_; rintro e w17 ⟨v17, rfl, ho, he⟩; rw [hN] at ho; have HO7 := Lib.hid ho.rs; replace HE1 := Lib.hid (HE1.out.tr he); clear ho he)
            | (go_at_call 8; refine (impl_CutChannels _ _ x q w15 (HO.out.ext HE1.out) (HPQ.out.ext HE1.out) htx).mono ?_; rintro e w16 ⟨v16, rfl, ho, he⟩; rw [hcT.out] at ho; have HX6 := Lib.hid ho.rv; replace HE1 := Lib.hid (HE1.out.tr he); clear ho he)
            | (go_at_call 9; refine (law_sameInts _ _ Ns Ns _ HO3.out HO4.out).mono ?_; rintro e w15 ⟨rfl, he⟩; rw [Eqb.t (rfl : Ns = Ns)]; replace HE1 := Lib.hid (HE1.out.tr he); clear he)
            | (go_at_call 10; refine (impl_SetupNumbers _ s w13 (HP.out.ext HE1.out)).mono ?_; rintro e w14 ⟨v14, rfl, ho, he⟩; rw [hNs] at ho; have HO4 := Lib.hid ho.rs; replace HO3 := Lib.hid (HO3.out.ext he); replace HE1 := Lib.hid (HE1.out.tr he); clear ho he)
            | (go_at_call 10; refine (impl_SetupNumbers _ s _ HX2.out).mono ?_; rintro e w13 ⟨v13, rfl, ho, he⟩; rw [hNs] at ho; have HO3 := Lib.hid ho.rs; replace HE1 := Lib.hid (HE1.out.tr he); clear ho he)
            | (go_at_call 8; refine (impl_CutChannels _ _ s al _ (HP.out.ext HE1.out) (HAL.out.ext HE1.out) htot).mono ?_; rintro e w12 ⟨v12, rfl, ho, he⟩; rw [hcA.out] at ho; have HX2 := Lib.hid ho.rv; replace HE1 := Lib.hid (HE1.out.tr he); clear ho he)
            | (go_at_call 15; refine (impl_PolicyGaps _ _ s al _ (HP.out.ext (Ext.refl wo).drew) (HAL.out.ext (Ext.refl wo).drew)).mono ?_; rintro e w11 ⟨v11, rfl, ho, he⟩; rw [hgA.out] at ho; obtain ⟨p11, q11, rfl, _⟩ := ho.rs.form; have HE1 := Lib.hid ((Ext.refl wo).drew.tr he); clear ho he))
        go_wp2
        go_ret
        exact ⟨rfl, HS6.out.tr HE1.out⟩
end Sk

