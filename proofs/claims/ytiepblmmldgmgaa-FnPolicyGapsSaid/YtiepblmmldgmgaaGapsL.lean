/- Contracts of functions of the given program, and lemmas for them: each theorem states the condition under which it holds. -/
import Derived.Test.YtiepblmmldgmgaaChecked
import Derived.Deep.CutBlock
import Derived.Deep.CutRange
import Derived.Test.YtiepblmmldgmgaaGaps
import Derived.Test.YtiepblmmldgmgaaFlowL
import Derived.Test.YtiepblmmldgmgaaDrawSt
import Derived.Test.YtiepblmmldgmgaaDrawW
import Derived.Test.YtiepblmmldgmgaaRdr
import Derived.Test.YtiepblmmldgmgaaNums
import Derived.Test.YtiepblmmldgmgaaTop
import Derived.Test.YtiepblmmldgmgaaBuild
import Derived.Test.YtiepblmmldgmgaaAcc
import Derived.Test.YtiepblmmldgmgaaRead
import Derived.Test.YtiepblmmldgmgaaTypes
import Derived.Test.YtiepblmmldgmgaaLeastS
namespace Sk
open Go Go.Proofs Go.RowKit
set_option maxHeartbeats 1600000
set_option maxRecDepth 100000
set_option linter.unusedVariables false
set_option linter.unusedSimpArgs false
theorem M.gcell_mem {l q : List (List Bool)} {a b : Nat} {z : Int} (h : z ∈ M.gcell l q a b) : z = 10 * (a : Int) + b ∧ M.at2 l a b = true ∧ M.at2 q a b = false := by
  unfold M.gcell at h
  split at h
  · rename_i hc
    rw [List.mem_singleton] at h
    simp only [Bool.and_eq_true, Bool.not_eq_true'] at hc
    exact ⟨h, hc⟩
  · cases h
theorem M.grow_mem {l q : List (List Bool)} {n a : Nat} {z : Int} (h : z ∈ M.grow l q n a) : ∃ b, b < n ∧ z = 10 * (a : Int) + b ∧ M.at2 l a b = true ∧ M.at2 q a b = false := by
  obtain ⟨b, hb, hz⟩ := List.mem_flatMap.1 h
  exact ⟨b, List.mem_range.1 hb, M.gcell_mem hz⟩
theorem M.gaps_mem {l q : List (List Bool)} {n : Nat} {z : Int} (h : z ∈ M.gaps l q n) : ∃ a b, a < n ∧ b < n ∧ z = 10 * (a : Int) + b ∧ M.at2 l a b = true ∧ M.at2 q a b = false := by
  obtain ⟨a, ha, hz⟩ := List.mem_flatMap.1 h
  obtain ⟨b, hb, h3⟩ := M.grow_mem hz
  exact ⟨a, b, List.mem_range.1 ha, hb, h3⟩
theorem M.gaps_sorted (l q : List (List Bool)) {n : Nat} (hn : n ≤ 10) : (M.gaps l q n).Pairwise (· < ·) := by
  unfold M.gaps
  rw [List.pairwise_flatMap]
  refine ⟨fun a _ => ?_, ?_⟩
  · unfold M.grow
    rw [List.pairwise_flatMap]
    refine ⟨fun b _ => ?_, ?_⟩
    · unfold M.gcell; split <;> simp
    · refine List.Pairwise.imp ?_ List.pairwise_lt_range
      intro b c hbc x hx y hy
      have h1 := (M.gcell_mem hx).1
      have h2 := (M.gcell_mem hy).1
      omega
  · refine List.Pairwise.imp ?_ List.pairwise_lt_range
    intro a c hac x hx y hy
    obtain ⟨b, hb, h1, _⟩ := M.grow_mem hx
    obtain ⟨d, hd, h2, _⟩ := M.grow_mem hy
    omega
theorem M.dir_nil {a b : Nat} (h : M.dir [] a b = true) : a = b := by
  unfold M.dir at h
  simp at h
  omega
theorem M.gaps_nil {q : List (List Bool)} {n : Nat} (h : M.pv q n = true) : M.gaps (M.least [] n) q n = [] := by
  by_cases hg : M.gaps (M.least [] n) q n = []
  · exact hg
  · exfalso
    obtain ⟨z, hz⟩ := List.exists_mem_of_ne_nil _ hg
    obtain ⟨a, b, ha, hb, _, h1, h2⟩ := M.gaps_mem hz
    rw [M.least_at2 [] ha hb] at h1
    have hab : a = b := M.flows_least [] (fun i => i = b) rfl (fun i j _ _ hj hd => (M.dir_nil hd).trans hj) a h1
    subst hab
    obtain ⟨e1, _, _, h4⟩ := Bo.iff.1 h
    obtain ⟨r, hr⟩ : ∃ r, q[a]? = some r := ⟨_, List.getElem?_eq_getElem (by omega)⟩
    have := M.at2_of hr (h4 a r hr).2
    rw [this] at h2; cases h2
theorem M.policyGaps_quiet (s : Setup) (q : List (List Bool)) : M.policyGaps { s with Channels := [] } q = [] := by
  unfold M.policyGaps
  split
  · rename_i h
    exact M.gaps_nil (Bool.and_eq_true_iff.1 h).2
  · rfl
/-- What the law says of the gaps. -/
theorem M.policyGaps_facts {s : Setup} {q : List (List Bool)} {l : List Int} (h : M.policyGaps s q = l) (hl : l ≠ []) :
    M.leastP s = M.least s.Channels s.Parts.length ∧ M.pv q s.Parts.length = true ∧ s.Parts.length ≤ 5 ∧
    (∀ (k : Nat) (z : Int), l[k]? = some z → ∃ a b : Nat, a < s.Parts.length ∧ b < s.Parts.length ∧ z = 10 * (a : Int) + b ∧ M.at2 (M.least s.Channels s.Parts.length) a b = true ∧ M.at2 q a b = false) ∧
    ∀ (k : Nat) (z z' : Int), l[k]? = some z → l[k + 1]? = some z' → z < z' := by
  cases g : M.setv s
  · rw [M.policyGaps_f (.inl g)] at h; exact absurd h.symm hl
  · cases gk : M.pv q s.Parts.length
    · rw [M.policyGaps_f (.inr gk)] at h; exact absurd h.symm hl
    · rw [M.policyGaps_t g gk] at h
      have hp5 := M.setv_parts g
      subst h
      refine ⟨M.leastP_t g, rfl, hp5, fun k z hk => M.gaps_mem (List.mem_of_getElem? hk), fun k z z' h1 h2 => ?_⟩
      have hs := List.pairwise_iff_getElem.1 (M.gaps_sorted (M.least s.Channels s.Parts.length) q (n := s.Parts.length) (by omega))
      obtain ⟨i1, rfl⟩ := List.getElem?_eq_some_iff.1 h1
      obtain ⟨i2, rfl⟩ := List.getElem?_eq_some_iff.1 h2
      exact hs k (k + 1) i1 i2 (by omega)
end Sk

namespace Sk
open Go Go.Proofs Go.RowKit
set_option maxHeartbeats 1600000
set_option maxRecDepth 100000
set_option linter.unusedVariables false
set_option linter.unusedSimpArgs false
theorem M.drawnP.tot {ps : List (List Bool)} (h : M.drawnP ps) : GT.tot ps ≤ 1000 := by
  have := tot_list 7 6 ps h.1 (fun x hx => by
    have := tot_list 0 7 x (h.2 x hx) (fun y _ => Nat.le_refl _)
    omega)
  omega
theorem M.drawnP.least (s : Setup) : M.drawnP (M.leastP s) := by
  cases g : M.setv s
  · rw [M.leastP_f g]; exact M.drawnP.nil
  · rw [M.leastP_t g]
    have h5 := M.setv_parts g
    refine ⟨by rw [M.least_len]; omega, fun r hr => ?_⟩
    obtain ⟨k, hk⟩ := List.getElem?_of_mem hr
    rw [M.least_row hk]; omega
theorem Rsb.set3 {α : Type} [GT α] {L A : Nat} {w : World} {v u0 u1 u2 : Value} {xs : List α} (h : Rsb L w v xs) (hA : A < L) : Rsb A (((w.setCell ⟨A, 0, none⟩ u0).setCell ⟨A, 1, none⟩ u1).setCell ⟨A, 2, none⟩ u2) v xs := by
  obtain ⟨F, h1, h2⟩ := h
  have hk : ∀ k ∈ F, k ≠ A := fun k hk => by have := h2 k hk; omega
  exact ⟨F, ((h1.keep (fun k m => heap_set_ne (hk k m))).keep (fun k m => heap_set_ne (hk k m))).keep (fun k m => heap_set_ne (hk k m)), fun k m => by have := h2 k m; omega⟩
theorem spec_DrawPolicyGaps (v : Value) (xs : List By) (w : World) (h : Rs w v xs) :
    Calls Try.prog 24 #[v] w fun e w' => ∃ (v' : Value) (s : Setup) (v2 : Value) (ps : List (List Bool)), e = .returned (.tuple #[v', v2]) ∧ Rvb (α := Setup) w.heap.size w' v' s ∧ M.drawn s ∧ (Rsb w.heap.size w' v2 ps ∧ M.drawnP ps) ∧ Ext w w' := by
  have H := Lib.hid h
  clear h
  go_enter Try.func24, Try.ntmps24
  go_upto_region 1 with (fail)
  refine abs_world (fun W0 => Ext w W0 ∧ Bk W0 w.heap.size [.slice none 0 0, .slice none 0 0, .slice none 0 0] 27) ⟨(Ext.refl _).alloc _, Bk.new _ _ _⟩ ?_
  rintro W0 ⟨e0, kA⟩
  have HE0 := Lib.hid e0
  have KA := Lib.hid kA
  have hA := kA.lt
  clear e0 kA
  go_upto_region 3 with (first
    | (go_at_call 32; refine (spec_l20Setup W0 _ b 100 _ HR.out (by omega) (by omega)).mono ?_; rintro e w2 ⟨v2, s, rfl, hv, hds, hm, hr⟩; obtain ⟨a0, c0, a1, c1, a2, c2, rfl, hl0, hl1, hl2⟩ := hv.openS; have KA2 := Lib.hid (hm.bk (KA.out.ext HE.out) (by simp <;> omega)); have HV := Lib.hid hv; have HDS := Lib.hid hds; have HR2 := Lib.hid hr; have HM2 := Lib.hid (hm.ext (HE0.out.tr HE.out) (by simp <;> omega)); have hs2 := hm.size; clear hm hr hv hds)
    | (go_at_call 33; refine (spec_l20Open _ _ _ (H.out.ext HE0.out)).mono ?_; rintro e w1 ⟨b, rfl, hb, he, hr⟩; have HE := Lib.hid he; have hs1 := he.sz; have hb1 := hr.lt; have HR : Hid (Rd W0 w1 b (100 + 500)) := Lib.hid (hr.le (by omega)); clear he hr))
  refine abs_world (fun W2 => Ext w2 W2 ∧ Bk W2 w2.heap.size [.slice a0 s.Parts.length c0, .slice a1 s.Channels.length c1, .slice a2 s.Slots.length c2] 27) ⟨(Ext.refl _).alloc _, Bk.new _ _ _⟩ ?_
  rintro W2 ⟨e2, kB⟩
  have hW2 := e2.sz
  have HE2 := Lib.hid (HM2.out.tr e2)
  replace KA2 := Lib.hid (KA2.out.ext e2)
  replace HV := Lib.hid (HV.out.ext e2)
  replace HR2 : Hid (Rd W0 W2 b (40 + 60)) := Lib.hid (HR2.out.ext e2)
  have KB := Lib.hid kB
  have f0 := kB.cell (j := 0) rfl
  have hBl := kB.lt
  clear e2 kB HM2 HR KA
  have hp6 : s.Parts.length ≤ 6 := HDS.out.1
  go_upto_if 17 with (first
    | (go_at_call 55; refine (spec_odd W0 _ b 39 _ HR3.out (rng_sm (by omega) (by omega))).mono ?_; rintro e w4 ⟨⟨q, rfl⟩, hm, hr⟩; have hm := Mw.ofMo hm; have HE4 := Lib.hid (hm.ext HE3.out (by simp <;> omega)); have KA4 := hm.bk KA3.out (by simp <;> omega); have KB4 := hm.bk KB3.out (by simp <;> omega); have HV4 := Lib.hid (HV3.out.mw hm (by simpa using hb1)); have HP4 := Lib.hid (HP3.out.mw hm (by simp <;> omega)); clear hm hr)
    | (go_at_call 54; refine (spec_l20Policy W0 _ b 40 s.Parts.length 14 HR2.out hp6 (by omega) (by omega)).mono ?_; rintro e w3 ⟨v3, ps, rfl, hp, hpl, hm, hr⟩; have HDP := Lib.hid hpl; have HR3 : Hid (Rd W0 w3 b (39 + 1)) := Lib.hid hr; have HE3 := Lib.hid (hm.ext HE2.out (by simp <;> omega)); have KA3 := Lib.hid (hm.bk KA2.out (by simp <;> omega)); have KB3 := Lib.hid (hm.bk KB.out (by simp <;> omega)); have HV3 := Lib.hid (HV.out.mw hm (by simpa using hb1)); have HP3 := Lib.hid hp; obtain ⟨p3, n3, q3, rfl⟩ : ∃ a n c, v3 = .slice a n c := (by obtain ⟨a, c, h, _⟩ := hp.form; exact ⟨_, _, _, h⟩); clear hp hm hr))
  have b0 := KB4.cell (j := 0) rfl
  have b1 := KB4.cell (j := 1) rfl
  have b2 := KB4.cell (j := 2) rfl
  have hB4 := KB4.lt
  cases q
  · have d0 := KA4.cell (j := 0) rfl
    have d1 := KA4.cell (j := 1) rfl
    have d2 := KA4.cell (j := 2) rfl
    have df := KA4.fz
    have dl := KA4.lt
    go_wp2
    refine bodyPost_ret (v := .tuple #[.agg #[.slice a0 s.Parts.length c0, .slice a1 s.Channels.length c1, .slice a2 s.Slots.length c2], .slice p3 n3 q3]) (by simp [results, Try.results24, go_sem, d0, d1, d2]) rfl ⟨_, s, _, ps, rfl, ?_, HDS.out, ⟨?_, HDP.out⟩, ?_⟩
    · exact ((((HV4.out.set (p := ⟨w.heap.size, 0, none⟩) (by show w.heap.size < w1.heap.size; omega) _).set (p := ⟨w.heap.size, 1, none⟩) (by show w.heap.size < w1.heap.size; omega) _).set (p := ⟨w.heap.size, 2, none⟩) (by show w.heap.size < w1.heap.size; omega) _).mono (by omega))
    · exact (HP4.out.set3 (by omega))
    · exact (((HE4.out.set (Nat.le_refl _) _).set (Nat.le_refl _) _).set (Nat.le_refl _) _)
  · have htot : GT.tot s ≤ 1048576 := Nat.le_trans HDS.out.tot (by omega)
    go_wp2_with (go_at_call 21; refine (spec_LeastPolicy _ s _ HV4.out.rv htot).mono ?_; rintro e w5 ⟨v5, rfl, ho, he⟩; obtain ⟨p5, n5, q5, rfl⟩ := ho.sh; have HP5 := Lib.hid ho.rsb; have HV5 := Lib.hid (HV4.out.ext he); have HE5 := Lib.hid (HE4.out.tr he); have KA5 := KA4.ext he; have KB5 := KB4.ext he; have b0 := KB5.cell (j := 0) rfl; have b1 := KB5.cell (j := 1) rfl; have b2 := KB5.cell (j := 2) rfl; have hB5 := KB5.lt; have d0 := KA5.cell (j := 0) rfl; have d1 := KA5.cell (j := 1) rfl; have d2 := KA5.cell (j := 2) rfl; have df := KA5.fz; have dl := KA5.lt; clear ho he)
    refine bodyPost_ret (v := .tuple #[.agg #[.slice a0 s.Parts.length c0, .slice a1 s.Channels.length c1, .slice a2 s.Slots.length c2], .slice p5 n5 q5]) (by simp [results, Try.results24, go_sem, d0, d1, d2]) rfl ⟨_, s, _, M.leastP s, rfl, ?_, HDS.out, ⟨?_, M.drawnP.least s⟩, ?_⟩
    · exact ((((HV5.out.set (p := ⟨w.heap.size, 0, none⟩) (by show w.heap.size < w1.heap.size; omega) _).set (p := ⟨w.heap.size, 1, none⟩) (by show w.heap.size < w1.heap.size; omega) _).set (p := ⟨w.heap.size, 2, none⟩) (by show w.heap.size < w1.heap.size; omega) _).mono (by omega))
    · exact (HP5.out.set3 (by omega))
    · exact (((HE5.out.set (Nat.le_refl _) _).set (Nat.le_refl _) _).set (Nat.le_refl _) _)
end Sk

