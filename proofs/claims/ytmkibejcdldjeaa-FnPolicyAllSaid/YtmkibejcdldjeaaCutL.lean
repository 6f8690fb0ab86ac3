/- Contracts of functions of the given program, and lemmas for them: each theorem states the condition under which it holds. -/
import Derived.Test.YtmkibejcdldjeaaChecked
import Derived.Deep.CutBlock
import Derived.Deep.CutRange
import Derived.Test.YtmkibejcdldjeaaDrawSt
import Derived.Test.YtmkibejcdldjeaaDel
import Derived.Test.YtmkibejcdldjeaaDrawW
import Derived.Test.YtmkibejcdldjeaaSame
import Derived.Test.YtmkibejcdldjeaaNums
import Derived.Test.YtmkibejcdldjeaaClone
import Derived.Test.YtmkibejcdldjeaaNumsS
import Derived.Test.YtmkibejcdldjeaaLeastS
import Derived.Test.YtmkibejcdldjeaaBuild
import Derived.Test.YtmkibejcdldjeaaOwn
import Derived.Test.YtmkibejcdldjeaaTypes
import Derived.Test.YtmkibejcdldjeaaPol
import Derived.Test.YtmkibejcdldjeaaGaps
import Derived.Test.YtmkibejcdldjeaaDrawPt
import Derived.Test.YtmkibejcdldjeaaCutS
namespace Sk
open Go Go.Proofs Go.RowKit
set_option maxHeartbeats 1600000
set_option maxRecDepth 100000
set_option linter.unusedVariables false
set_option linter.unusedSimpArgs false
theorem M.gaps_none {l q : List (List Bool)} {n : Nat} (h : ∀ a b, a < n → b < n → M.at2 l a b = true → M.at2 q a b = true) : M.gaps l q n = [] := by
  by_cases hg : M.gaps l q n = []
  · exact hg
  · exfalso
    obtain ⟨z, hz⟩ := List.exists_mem_of_ne_nil _ hg
    obtain ⟨a, b, ha, hb, _, h1, h2⟩ := M.gaps_mem hz
    rw [h a b ha hb h1] at h2; cases h2
theorem M.gaps_mem_of {l q : List (List Bool)} {n a b : Nat} (ha : a < n) (hb : b < n) (h1 : M.at2 l a b = true) (h2 : M.at2 q a b = false) : 10 * (a : Int) + b ∈ M.gaps l q n :=
  List.mem_flatMap.2 ⟨a, List.mem_range.2 ha, List.mem_flatMap.2 ⟨b, List.mem_range.2 hb, by rw [M.gcell_t h1 h2]; exact List.mem_singleton.2 rfl⟩⟩
theorem M.pv_diag {q : List (List Bool)} {n a : Nat} (h : M.pv q n = true) (ha : a < n) : M.at2 q a a = true := by
  obtain ⟨e1, _, _, h4⟩ := Bo.iff.1 h
  obtain ⟨r, hr⟩ : ∃ r, q[a]? = some r := ⟨_, List.getElem?_eq_getElem (by omega)⟩
  exact M.at2_of hr (h4 a r hr).2
theorem M.dir_mem {cs : List Channel} {c : Channel} {i j : Int} (hc : c ∈ cs) (h : M.dc i j c = true) : M.dir cs i j = true := by
  unfold M.dir
  rw [Bool.or_eq_true]
  exact .inr (List.any_eq_true.2 ⟨c, hc, h⟩)
theorem M.least_dir {cs : List Channel} {n i j : Nat} (hi : i < n) (hj : j < n) (h : M.dir cs i j = true) : M.at2 (M.least cs n) i j = true := by
  rw [M.least_at2 cs hi hj]
  exact M.flows_closed cs hj hi hj (M.flows_self cs hj) h
/-- What the law says of a setup whose channels were cut. -/
theorem M.cut_facts {s : Setup} {q : List (List Bool)} {x : Setup} (h : M.cut s q = x) (hx : x.Slots ≠ []) :
    (M.setv s = true ∧ M.pv q s.Parts.length = true ∧ x.Parts = s.Parts ∧ x.Slots = s.Slots ∧ s.Parts.length ≤ 5) ∧ M.setv x = true ∧
    (∀ c ∈ x.Channels, ∃ i j : Nat, c.From = i ∧ c.To = j ∧ i < s.Parts.length ∧ j < s.Parts.length ∧ M.at2 q i j = true) ∧
    ((∀ a b c, a < s.Parts.length → b < s.Parts.length → c < s.Parts.length → M.at2 q a b = true → M.at2 q b c = true → M.at2 q a c = true) → M.policyGaps x q = []) ∧
    (M.policyGaps s q = [] → x.Channels.length = s.Channels.length) := by
  cases g : M.setv s
  · rw [M.cut_f (.inl g)] at h; subst h; exact absurd rfl hx
  cases gk : M.pv q s.Parts.length
  · rw [M.cut_f (.inr gk)] at h; subst h; exact absurd rfl hx
  rw [M.cut_t g gk] at h
  have hp5 := M.setv_parts g
  have hck : ∀ c ∈ x.Channels, c ∈ s.Channels ∧ M.ck q c = true := by
    subst h
    exact fun c hc => List.mem_filter.1 hc
  have hP : x.Parts = s.Parts := by subst h; rfl
  have hS : x.Slots = s.Slots := by subst h; rfl
  have hv : M.setv x = true := by
    have g2 := g
    unfold M.setv at g2 ⊢
    rw [hP, hS]
    simp only [Bool.and_eq_true] at g2 ⊢
    refine ⟨g2.1, ?_, g2.2.2⟩
    have h3 := g2.2.1
    unfold M.csv at h3 ⊢
    simp only [Bool.and_eq_true, decide_eq_true_eq, List.all_eq_true] at h3 ⊢
    refine ⟨h3.1, ?_, fun c hc => h3.2.2 c (hck c hc).1⟩
    have : x.Channels.length ≤ s.Channels.length := by subst h; exact List.length_filter_le _ _
    omega
  have hat : ∀ c ∈ x.Channels, ∃ i j : Nat, c.From = i ∧ c.To = j ∧ i < s.Parts.length ∧ j < s.Parts.length ∧ M.at2 q i j = true ∧ (c.Kind = 3 → M.at2 q j i = true) := by
    intro c hc
    obtain ⟨h1, h2⟩ := hck c hc
    obtain ⟨i, j, e1, e2, h3, h4⟩ := M.cv_nat g h1
    unfold M.ck at h2
    rw [e1, e2, Int.toNat_natCast, Int.toNat_natCast] at h2
    simp only [Bool.and_eq_true, Bool.or_eq_true, Bool.not_eq_true'] at h2
    exact ⟨i, j, e1, e2, h3, h4, h2.1, fun h5 => h2.2.elim (fun h6 => by rw [h5] at h6; simp at h6) id⟩
  refine ⟨⟨rfl, rfl, hP, hS, hp5⟩, hv, fun c hc => ?_, fun hon => ?_, fun hg => ?_⟩
  · obtain ⟨i, j, h1, h2, h3, h4, h5, _⟩ := hat c hc
    exact ⟨i, j, h1, h2, h3, h4, h5⟩
  · rw [M.policyGaps_t hv (by rw [hP]; exact gk), hP]
    refine M.gaps_none fun a b ha hb h1 => ?_
    rw [M.least_at2 _ ha hb] at h1
    refine (M.flows_least x.Channels (n := s.Parts.length) (k := b) (fun i => i < s.Parts.length ∧ M.at2 q i b = true) ⟨hb, M.pv_diag gk hb⟩ (fun i j hi hj hS hd => ⟨hi, ?_⟩) a h1).2
    unfold M.dir at hd
    rcases Bool.or_eq_true_iff.1 hd with hd | hd
    · obtain rfl : i = j := by
        have h7 : (i : Int) = j := by simpa using hd
        omega
      exact hS.2
    · obtain ⟨c, hc, hdc⟩ := List.any_eq_true.1 hd
      obtain ⟨u, v, e1, e2, h3, h4, h5, h6⟩ := hat c hc
      refine hon i j b hi hj hb ?_ hS.2
      unfold M.dc at hdc
      rw [e1, e2] at hdc
      simp only [Bool.or_eq_true, Bool.and_eq_true, beq_iff_eq] at hdc
      rcases hdc with ⟨k1, k2⟩ | ⟨⟨k0, k1⟩, k2⟩
      · obtain rfl : u = i := by omega
        obtain rfl : v = j := by omega
        exact h5
      · obtain rfl : u = j := by omega
        obtain rfl : v = i := by omega
        exact h6 k0
  · rw [M.policyGaps_t g gk] at hg
    have hall : ∀ c ∈ s.Channels, M.ck q c = true := by
      intro c hc
      obtain ⟨i, j, e1, e2, h3, h4⟩ := M.cv_nat g hc
      have hone : ∀ a b : Nat, a < s.Parts.length → b < s.Parts.length → M.dir s.Channels a b = true → M.at2 q a b = true := by
        intro a b ha hb hd
        cases hq : M.at2 q a b
        · have := M.gaps_mem_of ha hb (M.least_dir ha hb hd) hq
          rw [hg] at this; cases this
        · rfl
      unfold M.ck
      rw [e1, e2, Int.toNat_natCast, Int.toNat_natCast]
      have h5 : M.at2 q i j = true := hone i j h3 h4 (M.dir_mem hc (by unfold M.dc; rw [e1, e2]; simp))
      rw [h5]
      by_cases hk : c.Kind = 3
      · rw [hone j i h4 h3 (M.dir_mem hc (by unfold M.dc; rw [e1, e2, hk]; simp))]; simp
      · simp [hk]
    subst h
    show (s.Channels.filter (M.ck q)).length = _
    rw [List.filter_eq_self.2 hall]
end Sk

namespace Sk
open Go Go.Proofs Go.RowKit
set_option maxHeartbeats 1600000
set_option maxRecDepth 100000
set_option linter.unusedVariables false
set_option linter.unusedSimpArgs false
theorem M.drawnP.tot {ps : List (List Bool)} (h : M.drawnP ps) : GT.tot ps ≤ 1000 := by
  have := tot_list 7 6 ps h.1 (fun x hx => by
    have := tot_list 0 7 x (h.2 x hx) (fun y _ => Nat.le_refl _)
    omega)
  omega
theorem M.drawnP.least (s : Setup) : M.drawnP (M.leastP s) := by
  cases g : M.setv s
  · rw [M.leastP_f g]; exact M.drawnP.nil
  · rw [M.leastP_t g]
    have h5 := M.setv_parts g
    refine ⟨by rw [M.least_len]; omega, fun r hr => ?_⟩
    obtain ⟨k, hk⟩ := List.getElem?_of_mem hr
    rw [M.least_row hk]; omega
theorem Rsb.set3 {α : Type} [GT α] {L A : Nat} {w : World} {v u0 u1 u2 : Value} {xs : List α} (h : Rsb L w v xs) (hA : A < L) : Rsb A (((w.setCell ⟨A, 0, none⟩ u0).setCell ⟨A, 1, none⟩ u1).setCell ⟨A, 2, none⟩ u2) v xs := by
  obtain ⟨F, h1, h2⟩ := h
  have hk : ∀ k ∈ F, k ≠ A := fun k hk => by have := h2 k hk; omega
  exact ⟨F, ((h1.keep (fun k m => heap_set_ne (hk k m))).keep (fun k m => heap_set_ne (hk k m))).keep (fun k m => heap_set_ne (hk k m)), fun k m => by have := h2 k m; omega⟩
theorem spec_DrawPolicyGaps (v : Value) (xs : List By) (w : World) (h : Rs w v xs) :
    Calls Try.prog 21 #[v] w fun e w' => ∃ (v' : Value) (s : Setup) (v2 : Value) (ps : List (List Bool)), e = .returned (.tuple #[v', v2]) ∧ Rvb (α := Setup) w.heap.size w' v' s ∧ M.drawn s ∧ (Rsb w.heap.size w' v2 ps ∧ M.drawnP ps) ∧ Ext w w' := by
  have H := Lib.hid h
  clear h
  go_enter Try.func21, Try.ntmps21
  go_upto_region 1 with (fail)
  refine abs_world (fun W0 => Ext w W0 ∧ Bk W0 w.heap.size [.slice none 0 0, .slice none 0 0, .slice none 0 0] 27) ⟨(Ext.refl _).alloc _, Bk.new _ _ _⟩ ?_
  rintro W0 ⟨e0, kA⟩
  have HE0 := Lib.hid e0
  have KA := Lib.hid kA
  have hA := kA.lt
  clear e0 kA
  go_upto_region 3 with (first
    | (go_at_call 42; refine (spec_l20Setup W0 _ b 100 _ HR.out (by omega) (by omega)).mono ?_; rintro e w2 ⟨v2, s, rfl, hv, hds, hm, hr⟩; obtain ⟨a0, c0, a1, c1, a2, c2, rfl, hl0, hl1, hl2⟩ := hv.openS; have KA2 := Lib.hid (hm.bk (KA.out.ext HE.out) (by simp <;> omega)); have HV := Lib.hid hv; have HDS := Lib.hid hds; have HR2 := Lib.hid hr; have HM2 := Lib.hid (hm.ext (HE0.out.tr HE.out) (by simp <;> omega)); have hs2 := hm.size; clear hm hr hv hds)
    | (go_at_call 41; refine (spec_l20Open _ _ _ (H.out.ext HE0.out)).mono ?_; rintro e w1 ⟨b, rfl, hb, he, hr⟩; have HE := Lib.hid he; have hs1 := he.sz; have hb1 := hr.lt; have HR : Hid (Rd W0 w1 b (100 + 500)) := Lib.hid (hr.le (by omega)); clear he hr))
  refine abs_world (fun W2 => Ext w2 W2 ∧ Bk W2 w2.heap.size [.slice a0 s.Parts.length c0, .slice a1 s.Channels.length c1, .slice a2 s.Slots.length c2] 27) ⟨(Ext.refl _).alloc _, Bk.new _ _ _⟩ ?_
  rintro W2 ⟨e2, kB⟩
  have hW2 := e2.sz
  have HE2 := Lib.hid (HM2.out.tr e2)
  replace KA2 := Lib.hid (KA2.out.ext e2)
  replace HV := Lib.hid (HV.out.ext e2)
  replace HR2 : Hid (Rd W0 W2 b (40 + 60)) := Lib.hid (HR2.out.ext e2)
  have KB := Lib.hid kB
  have f0 := kB.cell (j := 0) rfl
  have hBl := kB.lt
  clear e2 kB HM2 HR KA
  have hp6 : s.Parts.length ≤ 6 := HDS.out.1
  go_upto_if 17 with (first
    | (go_at_call 51; refine (spec_odd W0 _ b 39 _ HR3.out (rng_sm (by omega) (by omega))).mono ?_; rintro e w4 ⟨⟨q, rfl⟩, hm, hr⟩; have hm := Mw.ofMo hm; have HE4 := Lib.hid (hm.ext HE3.out (by simp <;> omega)); have KA4 := hm.bk KA3.out (by simp <;> omega); have KB4 := hm.bk KB3.out (by simp <;> omega); have HV4 := Lib.hid (HV3.out.mw hm (by simpa using hb1)); have HP4 := Lib.hid (HP3.out.mw hm (by simp <;> omega)); clear hm hr)
    | (go_at_call 50; refine (spec_l20Policy W0 _ b 40 s.Parts.length 14 HR2.out hp6 (by omega) (by omega)).mono ?_; rintro e w3 ⟨v3, ps, rfl, hp, hpl, hm, hr⟩; have HDP := Lib.hid hpl; have HR3 : Hid (Rd W0 w3 b (39 + 1)) := Lib.hid hr; have HE3 := Lib.hid (hm.ext HE2.out (by simp <;> omega)); have KA3 := Lib.hid (hm.bk KA2.out (by simp <;> omega)); have KB3 := Lib.hid (hm.bk KB.out (by simp <;> omega)); have HV3 := Lib.hid (HV.out.mw hm (by simpa using hb1)); have HP3 := Lib.hid hp; obtain ⟨p3, n3, q3, rfl⟩ : ∃ a n c, v3 = .slice a n c := (by obtain ⟨a, c, h, _⟩ := hp.form; exact ⟨_, _, _, h⟩); clear hp hm hr))
  have b0 := KB4.cell (j := 0) rfl
  have b1 := KB4.cell (j := 1) rfl
  have b2 := KB4.cell (j := 2) rfl
  have hB4 := KB4.lt
  cases q
  · have d0 := KA4.cell (j := 0) rfl
    have d1 := KA4.cell (j := 1) rfl
    have d2 := KA4.cell (j := 2) rfl
    have df := KA4.fz
    have dl := KA4.lt
    go_wp2
    refine bodyPost_ret (v := .tuple #[.agg #[.slice a0 s.Parts.length c0, .slice a1 s.Channels.length c1, .slice a2 s.Slots.length c2], .slice p3 n3 q3]) (by simp [results, Try.results21, go_sem, d0, d1, d2]) rfl ⟨_, s, _, ps, rfl, ?_, HDS.out, ⟨?_, HDP.out⟩, ?_⟩
    · exact ((((HV4.out.set (p := ⟨w.heap.size, 0, none⟩) (by show w.heap.size < w1.heap.size; omega) _).set (p := ⟨w.heap.size, 1, none⟩) (by show w.heap.size < w1.heap.size; omega) _).set (p := ⟨w.heap.size, 2, none⟩) (by show w.heap.size < w1.heap.size; omega) _).mono (by omega))
    · exact (HP4.out.set3 (by omega))
    · exact (((HE4.out.set (Nat.le_refl _) _).set (Nat.le_refl _) _).set (Nat.le_refl _) _)
  · have htot : GT.tot s ≤ 1048576 := Nat.le_trans HDS.out.tot (by omega)
    go_wp2_with (go_at_call 52; refine (spec_LeastPolicy _ s _ HV4.out.rv htot).mono ?_; rintro e w5 ⟨v5, rfl, ho, he⟩; obtain ⟨p5, n5, q5, rfl⟩ := ho.sh; have HP5 := Lib.hid ho.rsb; have HV5 := Lib.hid (HV4.out.ext he); have HE5 := Lib.hid (HE4.out.tr he); have KA5 := KA4.ext he; have KB5 := KB4.ext he; have b0 := KB5.cell (j := 0) rfl; have b1 := KB5.cell (j := 1) rfl; have b2 := KB5.cell (j := 2) rfl; have hB5 := KB5.lt; have d0 := KA5.cell (j := 0) rfl; have d1 := KA5.cell (j := 1) rfl; have d2 := KA5.cell (j := 2) rfl; have df := KA5.fz; have dl := KA5.lt; clear ho he)
    refine bodyPost_ret (v := .tuple #[.agg #[.slice a0 s.Parts.length c0, .slice a1 s.Channels.length c1, .slice a2 s.Slots.length c2], .slice p5 n5 q5]) (by simp [results, Try.results21, go_sem, d0, d1, d2]) rfl ⟨_, s, _, M.leastP s, rfl, ?_, HDS.out, ⟨?_, M.drawnP.least s⟩, ?_⟩
    · exact ((((HV5.out.set (p := ⟨w.heap.size, 0, none⟩) (by show w.heap.size < w1.heap.size; omega) _).set (p := ⟨w.heap.size, 1, none⟩) (by show w.heap.size < w1.heap.size; omega) _).set (p := ⟨w.heap.size, 2, none⟩) (by show w.heap.size < w1.heap.size; omega) _).mono (by omega))
    · exact (HP5.out.set3 (by omega))
    · exact (((HE5.out.set (Nat.le_refl _) _).set (Nat.le_refl _) _).set (Nat.le_refl _) _)
theorem spec_DrawCutChannels (v : Value) (xs : List By) (w : World) (h : Rs w v xs) :
    Calls Try.prog 7 #[v] w fun e w' => ∃ (v' : Value) (s : Setup) (v2 : Value) (ps : List (List Bool)), e = .returned (.tuple #[v', v2]) ∧ Rvb (α := Setup) w.heap.size w' v' s ∧ M.drawn s ∧ (Rsb w.heap.size w' v2 ps ∧ M.drawnP ps) ∧ Ext w w' := by
  have H := Lib.hid h
  clear h
  go_enter Try.func7, Try.ntmps7
  go_upto_region 1 with (fail)
  refine abs_world (fun W0 => Ext w W0 ∧ Bk W0 w.heap.size [.slice none 0 0, .slice none 0 0, .slice none 0 0] 27) ⟨(Ext.refl _).alloc _, Bk.new _ _ _⟩ ?_
  rintro W0 ⟨e0, kA⟩
  have HE0 := Lib.hid e0
  have KA := Lib.hid kA
  have hA := kA.lt
  clear e0 kA
  go_wp2_with (go_at_call 21; refine (spec_DrawPolicyGaps _ _ _ (H.out.ext HE0.out)).mono ?_; rintro e w1 ⟨v1, s, v2, ps, rfl, hv, hds, ⟨hp, hdp⟩, he⟩; have HDP := Lib.hid hdp; obtain ⟨a0, c0, a1, c1, a2, c2, rfl, hl0, hl1, hl2⟩ := hv.openS; obtain ⟨p3, n3, q3, rfl⟩ : ∃ a n c, v2 = .slice a n c := (by obtain ⟨a, c, h, _⟩ := hp.form; exact ⟨_, _, _, h⟩); have KA4 := KA.out.ext he; have d0 := KA4.cell (j := 0) rfl; have d1 := KA4.cell (j := 1) rfl; have d2 := KA4.cell (j := 2) rfl; have df := KA4.fz; have dl := KA4.lt; have HV4 := Lib.hid hv; have HP4 := Lib.hid hp; have HDS := Lib.hid hds; have HE4 := Lib.hid (HE0.out.tr he); clear hv hp hds he)
  refine bodyPost_ret (v := .tuple #[.agg #[.slice a0 s.Parts.length c0, .slice a1 s.Channels.length c1, .slice a2 s.Slots.length c2], .slice p3 n3 q3]) (by simp [results, Try.results7, go_sem, d0, d1, d2]) rfl ⟨_, s, _, ps, rfl, ?_, HDS.out, ⟨?_, HDP.out⟩, ?_⟩
  · exact ((((HV4.out.set (p := ⟨w.heap.size, 0, none⟩) hA _).set (p := ⟨w.heap.size, 1, none⟩) hA _).set (p := ⟨w.heap.size, 2, none⟩) hA _).mono (by omega))
  · exact (HP4.out.set3 (by omega))
  · exact (((HE4.out.set (Nat.le_refl _) _).set (Nat.le_refl _) _).set (Nat.le_refl _) _)
end Sk

namespace Sk
open Go Go.Proofs Go.RowKit
set_option maxHeartbeats 1600000
set_option maxRecDepth 100000
set_option linter.unusedVariables false
set_option linter.unusedSimpArgs false
/-- The policy that allows everything. -/
def M.allP (n : Nat) : List (List Bool) := List.replicate n (List.replicate n true)
theorem M.allP_at {n a b : Nat} (ha : a < n) (hb : b < n) : M.at2 (M.allP n) a b = true :=
  M.at2_of (r := List.replicate n true) (by unfold M.allP; simp [ha]) (by simp [hb])
theorem M.allP_pv {n : Nat} (h : n ≤ 5) : M.pv (M.allP n) n = true := by
  refine Bo.t ⟨by simp [M.allP], by omega, by omega, fun j r hj => ?_⟩
  unfold M.allP at hj
  rw [List.getElem?_replicate] at hj
  split at hj
  · rename_i hjn
    cases hj
    simp [hjn]
  · cases hj
theorem M.allP_gaps {s : Setup} : M.policyGaps s (M.allP s.Parts.length) = [] := by
  cases g : M.setv s
  · exact M.policyGaps_f (.inl g)
  · have h5 := M.setv_parts g
    rw [M.policyGaps_t g (M.allP_pv (by omega))]
    exact M.gaps_none fun a b ha hb _ => M.allP_at ha hb
theorem M.cut_self {s : Setup} {q : List (List Bool)} (h : M.setv s = true) (k : M.pv q s.Parts.length = true) (hc : ∀ c ∈ s.Channels, M.ck q c = true) : M.cut s q = s := by
  rw [M.cut_t h k, List.filter_eq_self.2 hc]
theorem M.allP_cut {s : Setup} (h : M.setv s = true) : M.cut s (M.allP s.Parts.length) = s := by
  have h5 := M.setv_parts h
  refine M.cut_self h (M.allP_pv (by omega)) fun c hc => ?_
  obtain ⟨i, j, e1, e2, h3, h4⟩ := M.cv_nat h hc
  unfold M.ck
  rw [e1, e2, Int.toNat_natCast, Int.toNat_natCast, M.allP_at h3 h4, M.allP_at h4 h3]
  simp
theorem M.cut_twice {s : Setup} {q : List (List Bool)} {x : Setup} (h : M.cut s q = x) (hx : x.Slots ≠ []) : M.cut x q = x := by
  obtain ⟨⟨g, gk, hP, _, _⟩, hv, _, _, _⟩ := M.cut_facts h hx
  refine M.cut_self hv (by rw [hP]; exact gk) fun c hc => ?_
  rw [M.cut_t g gk] at h
  subst h
  exact (List.mem_filter.1 hc).2
theorem M.drawn.cut {s : Setup} (h : M.drawn s) (q : List (List Bool)) : M.drawn (M.cut s q) := by
  unfold M.cut
  split
  · exact ⟨h.1, h.2.1, Nat.le_trans (List.length_filter_le _ _) h.2.2.1, h.2.2.2⟩
  · exact ⟨by decide, (fun x hx => by cases hx), by decide, by decide⟩
theorem M.allP_tot {n : Nat} (h : n ≤ 5) : GT.tot (M.allP n) ≤ 1048576 := by
  have := tot_list 5 5 (M.allP n) (by simp [M.allP]; omega) (fun x hx => by
    have hx2 := List.eq_of_mem_replicate hx
    have := tot_list 0 5 x (by rw [hx2]; simp; omega) (fun y _ => Nat.le_refl _)
    omega)
  omega
end Sk

namespace Sk
open Go Go.Proofs Go.RowKit
set_option maxHeartbeats 1600000
set_option maxRecDepth 100000
set_option linter.unusedVariables false
set_option linter.unusedSimpArgs false
theorem rs_one {w : World} {T : TypeId} {z : Int} (h : rng z) : Rs (w.alloc (.cells #[.int .i64 z] T)) (.slice (some ⟨w.heap.size, 0, none⟩) 1 1) [z] :=
  ⟨[w.heap.size], _, 1, rfl, by simp, by unfold maxLen; omega, .inr ⟨by simp, w.heap.size, 0, [], rfl, rfl, Row.lit1 (cs := [.int .i64 z]) ⟨rfl, h, rfl⟩⟩⟩
theorem Rs.row {α : Type} [GT α] [Fl α] {w : World} {a : Option Addr} {n c : Nat} {xs : List α} (h : Rs w (.slice a n c) xs) (hx : 0 < xs.length) : ∃ g o, a = some ⟨g, o, none⟩ ∧ n = xs.length ∧ Row w g o xs [] := by
  obtain ⟨F, a', c', he, hl, hc, hr⟩ := h
  cases he
  rcases hr with ⟨rfl, _⟩ | ⟨_, b, o, F', rfl, rfl, hr⟩
  · cases hx
  · have := hr.fl
    subst this
    exact ⟨b, o, rfl, rfl, hr⟩
theorem Os.own1 {α : Type} [GT α] [Fl α] {e : TypeId} {L : Nat} {w : World} {v : Value} {xs : List α} (h : Oo e L w v xs) : ∃ F, GT.enc w [v] xs F ∧ Own L w F := by
  obtain ⟨F, h1, h2⟩ := h.os
  exact ⟨F, ⟨v, rfl, h1⟩, h2⟩
end Sk

namespace Sk
open Go Go.Proofs Go.RowKit
set_option maxHeartbeats 800000
set_option maxRecDepth 100000
set_option linter.unusedVariables false
set_option linter.unusedSimpArgs false
theorem Mx.own {F G : List Nat} {L : Nat} {a b : World} (h : Mx F a b) (ho : Own L a G) : Own L b G := ⟨ho.1, fun x hx => ⟨(ho.2 x hx).1, h.2.2.2 x (ho.2 x hx).2⟩⟩
theorem mkT_ct_Setup (x : Setup) (k : Int) : (x.mkT k).ctT = x.ctT := GT.mkE_ct _ _
theorem mkT_idem_Setup (x : Setup) (k : Int) : (x.mkT k).mkT k = x.mkT k := GT.mkE_idem _ _
theorem mkT_ct_Board (x : Board) (k : Int) : (x.mkT k).ctT = x.ctT := GT.mkE_ct _ _
theorem mkT_idem_Board (x : Board) (k : Int) : (x.mkT k).mkT k = x.mkT k := GT.mkE_idem _ _
theorem mkT_ct_Machine (x : Machine) (k : Int) : (x.mkT k).ctT = x.ctT := by simp only [Machine.mkT, Machine.ctT, GT.mkE_ct]
theorem mkT_idem_Machine (x : Machine) (k : Int) : (x.mkT k).mkT k = x.mkT k := by simp only [Machine.mkT, GT.mkE_ct, GT.mkE_idem]
theorem mkT_ct_Watch (x : Watch) (k : Int) : (x.mkT k).ctT = x.ctT := by simp only [Watch.mkT, Watch.ctT, GT.mkE_ct, mkT_ct_Machine]
theorem mkT_idem_Watch (x : Watch) (k : Int) : (x.mkT k).mkT k = x.mkT k := by simp only [Watch.mkT, mkT_ct_Machine, mkT_idem_Machine, GT.mkE_idem]
end Sk

namespace Sk
open Go Go.Proofs Go.RowKit
set_option maxHeartbeats 3000000
set_option maxRecDepth 100000
set_option linter.unusedVariables false
set_option linter.unusedSimpArgs false
/-- How far the influences of a policy were seen to go on. -/
def OnTo (q : List (List Bool)) (n ka kb kc : Nat) (o : Bool) : Prop :=
  o = true → ∀ a b c, a < n → b < n → c < n → (a < ka ∨ (a = ka ∧ (b < kb ∨ (b = kb ∧ c < kc)))) → M.at2 q a b = true → M.at2 q b c = true → M.at2 q a c = true
theorem OnTo.zero (q : List (List Bool)) (n : Nat) (o : Bool) : OnTo q n 0 0 0 o := fun _ a b c _ _ _ h => by omega
theorem OnTo.off (q : List (List Bool)) (n ka kb kc : Nat) : OnTo q n ka kb kc false := fun h => by cases h
theorem OnTo.nextA {q : List (List Bool)} {n ka : Nat} {o : Bool} (h : OnTo q n ka n 0 o) : OnTo q n (ka + 1) 0 0 o :=
  fun ho a b c ha hb hc hk => h ho a b c ha hb hc (by omega)
theorem OnTo.nextB {q : List (List Bool)} {n ka kb : Nat} {o : Bool} (h : OnTo q n ka kb n o) : OnTo q n ka (kb + 1) 0 o :=
  fun ho a b c ha hb hc hk => h ho a b c ha hb hc (by omega)
theorem OnTo.nextC {q : List (List Bool)} {n ka kb kc : Nat} {o : Bool} (h : OnTo q n ka kb kc o) (hk : M.at2 q ka kb = true → M.at2 q kb kc = true → M.at2 q ka kc = true) : OnTo q n ka kb (kc + 1) o :=
  fun ho a b c ha hb hc hk2 h1 h2 => by
    by_cases he : a = ka ∧ b = kb ∧ c = kc
    · obtain ⟨rfl, rfl, rfl⟩ := he; exact hk h1 h2
    · exact h ho a b c ha hb hc (by omega) h1 h2
theorem OnTo.all {q : List (List Bool)} {n : Nat} {o : Bool} (h : OnTo q n n 0 0 o) (ho : o = true) : ∀ a b c, a < n → b < n → c < n → M.at2 q a b = true → M.at2 q b c = true → M.at2 q a c = true :=
  fun a b c ha hb hc => h ho a b c ha hb hc (by omega)
end Sk

