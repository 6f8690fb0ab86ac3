/- Contracts of functions of the given program, and lemmas for them: each theorem states the condition under which it holds. -/
import Derived.Test.YtmkibejcdldjeaaChecked
import Derived.Deep.CutBlock
import Derived.Deep.CutRange
import Derived.ChangeArms
import Derived.Test.YtmkibejcdldjeaaDrawPt
import Derived.Test.YtmkibejcdldjeaaDrawCh
import Derived.Test.YtmkibejcdldjeaaSame
import Derived.Test.YtmkibejcdldjeaaLeastS
import Derived.Test.YtmkibejcdldjeaaDel
import Derived.Test.YtmkibejcdldjeaaDrawPol
import Derived.Test.YtmkibejcdldjeaaPol
import Derived.Test.YtmkibejcdldjeaaOwn
import Derived.Test.YtmkibejcdldjeaaTypes
import Derived.Test.YtmkibejcdldjeaaFlowL
import Derived.Test.YtmkibejcdldjeaaDrawS
import Derived.Test.YtmkibejcdldjeaaBuild
namespace Sk
open Go Go.Proofs Go.RowKit
set_option maxHeartbeats 1600000
set_option maxRecDepth 100000
set_option linter.unusedVariables false
set_option linter.unusedSimpArgs false
/-- A slice that one reads through blocks from L on, none of them of G. -/
def Rsx {α : Type} [GT α] (G : List Nat) (L : Nat) (w : World) (v : Value) (xs : List α) : Prop := ∃ F, Sl w v xs F ∧ ∀ k ∈ F, L ≤ k ∧ k ∉ G
theorem Rsx.mw {α : Type} [GT α] {G F : List Nat} {L : Nat} {w w' : World} {v : Value} {xs : List α} (h : Rsx G L w v xs) (k : Mw F w w') (hF : ∀ x ∈ F, x ∈ G) : Rsx G L w' v xs := by
  obtain ⟨K, h1, h2⟩ := h
  exact ⟨K, k.sl h1 (fun y hy hf => (h2 y hy).2 (hF y hf)), h2⟩
theorem Rsb.x {α : Type} [GT α] {G : List Nat} {L L' : Nat} {w : World} {v : Value} {xs : List α} (h : Rsb L w v xs) (hG : ∀ x ∈ G, x < L ∨ w.heap.size ≤ x) (hL : L' ≤ L) : Rsx G L' w v xs := by
  obtain ⟨K, h1, h2⟩ := h
  exact ⟨K, h1, fun k hk => ⟨Nat.le_trans hL (h2 k hk), fun hm => by have := h1.inh k hk; have := h2 k hk; rcases hG k hm with h | h <;> omega⟩⟩
theorem Rsx.ext {α : Type} [GT α] {G : List Nat} {L : Nat} {w w' : World} {v : Value} {xs : List α} (h : Rsx G L w v xs) (k : Ext w w') : Rsx G L w' v xs := h.mw (F := []) (Mw.ofExt k) (by simp)
theorem Rsx.set {α : Type} [GT α] {G : List Nat} {L : Nat} {w : World} {v : Value} {xs : List α} (h : Rsx G L w v xs) {p : Addr} (hp : p.block ∈ G) (u : Value) : Rsx G L (w.setCell p u) v xs :=
  h.mw (F := [p.block]) (Mw.ofMo ((Mo.refl _ _).set (by simp) u)) (by simpa using hp)
theorem M.drawn_tot {s : Setup} (h5 : s.Parts.length ≤ 6) (hw : ∀ x ∈ s.Parts, x.Windows.length ≤ 20) (h8 : s.Channels.length ≤ 9) (h12 : s.Slots.length ≤ 13) : GT.tot s ≤ 1000 := by
  have hp := tot_list 30 6 s.Parts h5 (fun x hx => by
    have := tot_list 0 20 x.Windows (hw x hx) (fun y _ => Nat.le_refl _)
    show GT.tot x.Windows + GT.tot x.Cells ≤ _
    have h0 : GT.tot x.Cells = 0 := rfl
    omega)
  have hc := tot_list 0 9 s.Channels h8 (fun y _ => Nat.le_refl _)
  have hs := tot_list 0 13 s.Slots h12 (fun y _ => Nat.le_refl _)
  show GT.tot s.Parts + GT.tot s.Channels + GT.tot s.Slots ≤ _
  omega
/-- What is known of a setup that was drawn. -/
def M.drawn (s : Setup) : Prop := s.Parts.length ≤ 6 ∧ (∀ x ∈ s.Parts, x.Windows.length ≤ 20) ∧ s.Channels.length ≤ 9 ∧ s.Slots.length ≤ 13
theorem M.drawn.tot {s : Setup} (h : M.drawn s) : GT.tot s ≤ 1000 := M.drawn_tot h.1 h.2.1 h.2.2.1 h.2.2.2
theorem spec_l20Setup (W w : World) (b m : Nat) (n : Int) (h : Rd W w b (m + 500)) (hn1 : -1000000 ≤ n) (hn2 : n ≤ 1000000) :
    Calls Try.prog 42 #[.pointer (some ⟨b, 0, none⟩), .int .i64 n] w fun e w' => ∃ v s, e = .returned v ∧ Rvb (α := Setup) w.heap.size w' v s ∧ M.drawn s ∧ Mw [b] w w' ∧ Rd W w' b m := by
  have H := Lib.hid h
  have hbl := h.lt
  have hbW := h.1
  have hWw := h.2.1.sz
  clear h
  go_enter Try.func42, Try.ntmps42
  go_upto_region 1 with (fail)
  refine abs_world (fun W0 => Ext w W0 ∧ Bk W0 w.heap.size [.slice none 0 0, .slice none 0 0, .slice none 0 0] 27) ⟨(Ext.refl _).alloc _, Bk.new _ _ _⟩ ?_
  rintro W0 ⟨e0, kA⟩
  have HRD := Lib.hid (H.out.ext e0)
  have HMW : Hid (Mw [b] w W0) := Lib.hid (Mw.ofExt e0)
  have hAl := kA.lt
  have KA := Lib.hid kA
  clear e0 H kA
  go_upto_region 2 with (go_at_call 75; refine (spec_l20Parts W _ b (m + 100) _ HRD.out (by omega) (by omega)).mono ?_; rintro e w1 ⟨v0, ps, rfl, hp, ⟨hpl, hpw⟩, hm, hr⟩; obtain ⟨p0, q0, rfl, hq0⟩ := hp.form; have hs1 := hm.size; replace HMW := Lib.hid (HMW.out.tr hm); replace KA := Lib.hid (hm.bk KA.out (by simp; omega)); replace HRD := Lib.hid hr; have HP := Lib.hid hp; have HPW := Lib.hid hpw; clear hm hr hp hpw)
  obtain ⟨B, hB⟩ : ∃ B, B = w1.heap.size := ⟨_, rfl⟩
  have hBA : w.heap.size < B := by omega
  refine abs_world (fun u => Mw [b] w u ∧ Rd W u b (m + 100) ∧ Bk u w.heap.size [.slice none 0 0, .slice none 0 0, .slice none 0 0] 27 ∧ Bk u B [.slice p0 ps.length q0, .slice none 0 0, .slice none 0 0] 27 ∧ Rsx [b, w.heap.size, B] w.heap.size u (.slice p0 ps.length q0) ps)
    ⟨HMW.out.tr (Mw.ofExt ((Ext.refl _).alloc _)), HRD.out.ext ((Ext.refl _).alloc _), KA.out.ext ((Ext.refl _).alloc _), by rw [hB]; exact Bk.new _ _ _, (HP.out.x (by simp; omega) (by omega)).ext ((Ext.refl _).alloc _)⟩ ?_
  rw [← hB]
  clear HMW HRD KA HP hB
  rintro w2 ⟨mw2, rd2, ka2, kb2, hx2⟩
  have HMW := Lib.hid mw2; have HRD := Lib.hid rd2; have KA := Lib.hid ka2; have KB := Lib.hid kb2; have HX := Lib.hid hx2
  have hBl := kb2.lt
  have c0 := kb2.cell (j := 0) rfl
  clear mw2 rd2 ka2 kb2 hx2
  go_upto_region 3 with (go_at_call 76; refine (spec_l20Channels W _ b (m + 60) _ _ HRD.out (by omega) (by omega) (by omega)).mono ?_; rintro e w3 ⟨v1, cs, rfl, hp, hcl, hm, hr⟩; obtain ⟨p1, q1, rfl, hq1⟩ := hp.form; have hs3 := hm.size; replace HMW := Lib.hid (HMW.out.tr hm); replace KA := Lib.hid (hm.bk KA.out (by simp; omega)); replace KB := Lib.hid (hm.bk KB.out (by simp; omega)); replace HX := Lib.hid (HX.out.mw hm (by simp)); replace HRD := Lib.hid hr; have HC := Lib.hid (hp.x (G := [b, w.heap.size, B]) (L' := w.heap.size) (by simp; omega) (by omega)); have b1 := KB.out.cell (j := 1) rfl; have bf := KB.out.fz 1; clear hm hr hp)
  refine abs_world (fun u => Mw [b] w u ∧ Rd W u b (m + 60) ∧ Bk u w.heap.size [.slice none 0 0, .slice none 0 0, .slice none 0 0] 27 ∧ Bk u B [.slice p0 ps.length q0, .slice p1 cs.length q1, .slice none 0 0] 27 ∧ Rsx [b, w.heap.size, B] w.heap.size u (.slice p0 ps.length q0) ps ∧ Rsx [b, w.heap.size, B] w.heap.size u (.slice p1 cs.length q1) cs ∧ B < u.heap.size)
    ⟨HMW.out.set (.inr (by show _ ≤ B; omega)) _, HRD.out.set (by show b ≠ B; omega) (by show _ ≤ B; omega) _, KA.out.set_ne (by show w.heap.size ≠ B; omega) _, by have := KB.out.set 1 (.slice p1 cs.length q1); simpa using this, HX.out.set (by simp) _, HC.out.set (by simp) _, by simp; omega⟩ ?_
  clear HMW HRD KA KB HX HC b1 bf
  rintro w4 ⟨mw2, rd2, ka2, kb2, hx2, hc2, hBl4⟩
  have HMW := Lib.hid mw2; have HRD := Lib.hid rd2; have KA := Lib.hid ka2; have KB := Lib.hid kb2; have HX := Lib.hid hx2; have HC := Lib.hid hc2
  have c4 := kb2.cell (j := 0) rfl
  clear mw2 rd2 ka2 kb2 hx2 hc2 c0
  go_upto_region 4 with (go_at_call 77; refine (spec_l20Slots W _ b (m + 30) _ _ (HRD.out.le (by omega)) (by omega) (by omega) (by omega)).mono ?_; rintro e w5 ⟨v2, ss, rfl, hp, hsl, hm, hr⟩; obtain ⟨p2, q2, rfl, hq2⟩ := hp.form; have hs5 := hm.size; replace HMW := Lib.hid (HMW.out.tr hm); replace KA := Lib.hid (hm.bk KA.out (by simp; omega)); replace KB := Lib.hid (hm.bk KB.out (by simp; omega)); replace HX := Lib.hid (HX.out.mw hm (by simp)); replace HC := Lib.hid (HC.out.mw hm (by simp)); replace HRD := Lib.hid hr; have HS := Lib.hid (hp.x (G := [b, w.heap.size, B]) (L' := w.heap.size) (by simp; omega) (by omega)); have b2 := KB.out.cell (j := 2) rfl; have bf := KB.out.fz 2; clear hm hr hp)
  refine abs_world (fun u => Mw [b] w u ∧ Rd W u b m ∧ Bk u w.heap.size [.slice none 0 0, .slice none 0 0, .slice none 0 0] 27 ∧ Bk u B [.slice p0 ps.length q0, .slice p1 cs.length q1, .slice p2 ss.length q2] 27 ∧ Rsx [b, w.heap.size, B] w.heap.size u (.slice p0 ps.length q0) ps ∧ Rsx [b, w.heap.size, B] w.heap.size u (.slice p1 cs.length q1) cs ∧ Rsx [b, w.heap.size, B] w.heap.size u (.slice p2 ss.length q2) ss)
    ⟨HMW.out.set (.inr (by show _ ≤ B; omega)) _, (HRD.out.set (by show b ≠ B; omega) (by show _ ≤ B; omega) _).le (by omega), KA.out.set_ne (by show w.heap.size ≠ B; omega) _, by have := KB.out.set 2 (.slice p2 ss.length q2); simpa using this, HX.out.set (by simp) _, HC.out.set (by simp) _, HS.out.set (by simp) _⟩ ?_
  clear HMW HRD KA KB HX HC HS b2 bf c4
  rintro w6 ⟨mw2, rd2, ka2, kb2, hx2, hc2, hs2⟩
  have a0 := ka2.cell (j := 0) rfl
  have a1 := ka2.cell (j := 1) rfl
  have a2 := ka2.cell (j := 2) rfl
  have af := ka2.fz
  have al := ka2.lt
  have b0 := kb2.cell (j := 0) rfl
  have b1 := kb2.cell (j := 1) rfl
  have b2 := kb2.cell (j := 2) rfl
  have bl := kb2.lt
  have HMW := Lib.hid mw2; have HRD := Lib.hid rd2; have HX := Lib.hid hx2; have HC := Lib.hid hc2; have HS := Lib.hid hs2
  clear mw2 rd2 ka2 kb2 hx2 hc2 hs2
  go_wp2
  refine bodyPost_ret (v := .agg #[.slice p0 ps.length q0, .slice p1 cs.length q1, .slice p2 ss.length q2]) (by simp [results, Try.results42, go_sem, a0, a1, a2]) rfl ⟨_, ⟨ps, cs, ss⟩, rfl, ?_, ⟨hpl, HPW.out, hcl, hsl⟩, ?_, ?_⟩
  · obtain ⟨F0, h0, k0⟩ := ((HX.out.set (p := ⟨w.heap.size, 0, none⟩) (by simp) (.slice p0 ps.length q0)).set (p := ⟨w.heap.size, 1, none⟩) (by simp) (.slice p1 cs.length q1)).set (p := ⟨w.heap.size, 2, none⟩) (by simp) (.slice p2 ss.length q2)
    obtain ⟨F1, h1, k1⟩ := ((HC.out.set (p := ⟨w.heap.size, 0, none⟩) (by simp) (.slice p0 ps.length q0)).set (p := ⟨w.heap.size, 1, none⟩) (by simp) (.slice p1 cs.length q1)).set (p := ⟨w.heap.size, 2, none⟩) (by simp) (.slice p2 ss.length q2)
    obtain ⟨F2, h2, k2⟩ := ((HS.out.set (p := ⟨w.heap.size, 0, none⟩) (by simp) (.slice p0 ps.length q0)).set (p := ⟨w.heap.size, 1, none⟩) (by simp) (.slice p1 cs.length q1)).set (p := ⟨w.heap.size, 2, none⟩) (by simp) (.slice p2 ss.length q2)
    exact ⟨[_, _, _], _, rfl, ⟨_, _, _, F0, F1, F2, rfl, h0, h1, h2, rfl⟩, fun k hk => by
      rcases List.mem_append.1 hk with hk | hk
      · exact (k0 k hk).1
      · rcases List.mem_append.1 hk with hk | hk
        · exact (k1 k hk).1
        · exact (k2 k hk).1⟩
  · exact ((HMW.out.set (.inr (Nat.le_refl _)) _).set (.inr (Nat.le_refl _)) _).set (.inr (Nat.le_refl _)) _
  · exact ((HRD.out.set (by show b ≠ w.heap.size; omega) hWw _).set (by show b ≠ w.heap.size; omega) hWw _).set (by show b ≠ w.heap.size; omega) hWw _
end Sk

namespace Sk
open Go Go.Proofs Go.RowKit Go.ChangeShapes Go.WideShapes Go.ChangeAt Go.Deep
set_option maxHeartbeats 1600000
set_option maxRecDepth 100000
set_option linter.unusedVariables false
set_option linter.unusedSimpArgs false
theorem Rdr.byte {P : Program} {t : TypeId} (ht : P.underlying t = some (.int .u8)) (hc : P.cellsOf t = 1) : Rdr P t By :=
  ⟨hc, fun h => by
    obtain ⟨n, rfl, _, hw⟩ := DataW.trod_int ht h
    obtain ⟨h1, h2⟩ := bounds_u8 hw
    exact ⟨⟨n⟩, [], rfl, h1, h2, rfl⟩⟩
theorem rd_uint8S : Rdr Try.prog 22 (List By) := .slice (.byte Try.underlying5 (by kernel_rfl)) Try.underlying22 (by kernel_rfl)
end Sk

namespace Sk
open Go Go.Proofs Go.RowKit
set_option maxHeartbeats 1600000
set_option maxRecDepth 100000
set_option linter.unusedVariables false
set_option linter.unusedSimpArgs false
theorem M.gaps_none {l q : List (List Bool)} {n : Nat} (h : ∀ a b, a < n → b < n → M.at2 l a b = true → M.at2 q a b = true) : M.gaps l q n = [] := by
  by_cases hg : M.gaps l q n = []
  · exact hg
  · exfalso
    obtain ⟨z, hz⟩ := List.exists_mem_of_ne_nil _ hg
    obtain ⟨a, b, ha, hb, _, h1, h2⟩ := M.gaps_mem hz
    rw [h a b ha hb h1] at h2; cases h2
theorem M.gaps_mem_of {l q : List (List Bool)} {n a b : Nat} (ha : a < n) (hb : b < n) (h1 : M.at2 l a b = true) (h2 : M.at2 q a b = false) : 10 * (a : Int) + b ∈ M.gaps l q n :=
  List.mem_flatMap.2 ⟨a, List.mem_range.2 ha, List.mem_flatMap.2 ⟨b, List.mem_range.2 hb, by rw [M.gcell_t h1 h2]; exact List.mem_singleton.2 rfl⟩⟩
theorem M.pv_diag {q : List (List Bool)} {n a : Nat} (h : M.pv q n = true) (ha : a < n) : M.at2 q a a = true := by
  obtain ⟨e1, _, _, h4⟩ := Bo.iff.1 h
  obtain ⟨r, hr⟩ : ∃ r, q[a]? = some r := ⟨_, List.getElem?_eq_getElem (by omega)⟩
  exact M.at2_of hr (h4 a r hr).2
theorem M.dir_mem {cs : List Channel} {c : Channel} {i j : Int} (hc : c ∈ cs) (h : M.dc i j c = true) : M.dir cs i j = true := by
  unfold M.dir
  rw [Bool.or_eq_true]
  exact .inr (List.any_eq_true.2 ⟨c, hc, h⟩)
theorem M.least_dir {cs : List Channel} {n i j : Nat} (hi : i < n) (hj : j < n) (h : M.dir cs i j = true) : M.at2 (M.least cs n) i j = true := by
  rw [M.least_at2 cs hi hj]
  exact M.flows_closed cs hj hi hj (M.flows_self cs hj) h
/-- What the law says of a setup whose channels were cut. -/
theorem M.cut_facts {s : Setup} {q : List (List Bool)} {x : Setup} (h : M.cut s q = x) (hx : x.Slots ≠ []) :
    (M.setv s = true ∧ M.pv q s.Parts.length = true ∧ x.Parts = s.Parts ∧ x.Slots = s.Slots ∧ s.Parts.length ≤ 5) ∧ M.setv x = true ∧
    (∀ c ∈ x.Channels, ∃ i j : Nat, c.From = i ∧ c.To = j ∧ i < s.Parts.length ∧ j < s.Parts.length ∧ M.at2 q i j = true) ∧
    ((∀ a b c, a < s.Parts.length → b < s.Parts.length → c < s.Parts.length → M.at2 q a b = true → M.at2 q b c = true → M.at2 q a c = true) → M.policyGaps x q = []) ∧
    (M.policyGaps s q = [] → x.Channels.length = s.Channels.length) := by
  cases g : M.setv s
  · rw [M.cut_f (.inl g)] at h; subst h; exact absurd rfl hx
  cases gk : M.pv q s.Parts.length
  · rw [M.cut_f (.inr gk)] at h; subst h; exact absurd rfl hx
  rw [M.cut_t g gk] at h
  have hp5 := M.setv_parts g
  have hck : ∀ c ∈ x.Channels, c ∈ s.Channels ∧ M.ck q c = true := by
    subst h
    exact fun c hc => List.mem_filter.1 hc
  have hP : x.Parts = s.Parts := by subst h; rfl
  have hS : x.Slots = s.Slots := by subst h; rfl
  have hv : M.setv x = true := by
    have g2 := g
    unfold M.setv at g2 ⊢
    rw [hP, hS]
    simp only [Bool.and_eq_true] at g2 ⊢
    refine ⟨g2.1, ?_, g2.2.2⟩
    have h3 := g2.2.1
    unfold M.csv at h3 ⊢
    simp only [Bool.and_eq_true, decide_eq_true_eq, List.all_eq_true] at h3 ⊢
    refine ⟨h3.1, ?_, fun c hc => h3.2.2 c (hck c hc).1⟩
    have : x.Channels.length ≤ s.Channels.length := by subst h; exact List.length_filter_le _ _
    omega
  have hat : ∀ c ∈ x.Channels, ∃ i j : Nat, c.From = i ∧ c.To = j ∧ i < s.Parts.length ∧ j < s.Parts.length ∧ M.at2 q i j = true ∧ (c.Kind = 3 → M.at2 q j i = true) := by
    intro c hc
    obtain ⟨h1, h2⟩ := hck c hc
    obtain ⟨i, j, e1, e2, h3, h4⟩ := M.cv_nat g h1
    unfold M.ck at h2
    rw [e1, e2, Int.toNat_natCast, Int.toNat_natCast] at h2
    simp only [Bool.and_eq_true, Bool.or_eq_true, Bool.not_eq_true'] at h2
    exact ⟨i, j, e1, e2, h3, h4, h2.1, fun h5 => h2.2.elim (fun h6 => by rw [h5] at h6; simp at h6) id⟩
  refine ⟨⟨rfl, rfl, hP, hS, hp5⟩, hv, fun c hc => ?_, fun hon => ?_, fun hg => ?_⟩
  · obtain ⟨i, j, h1, h2, h3, h4, h5, _⟩ := hat c hc
    exact ⟨i, j, h1, h2, h3, h4, h5⟩
  · rw [M.policyGaps_t hv (by rw [hP]; exact gk), hP]
    refine M.gaps_none fun a b ha hb h1 => ?_
    rw [M.least_at2 _ ha hb] at h1
    refine (M.flows_least x.Channels (n := s.Parts.length) (k := b) (fun i => i < s.Parts.length ∧ M.at2 q i b = true) ⟨hb, M.pv_diag gk hb⟩ (fun i j hi hj hS hd => ⟨hi, ?_⟩) a h1).2
    unfold M.dir at hd
    rcases Bool.or_eq_true_iff.1 hd with hd | hd
    · obtain rfl : i = j := by
        have h7 : (i : Int) = j := by simpa using hd
        omega
      exact hS.2
    · obtain ⟨c, hc, hdc⟩ := List.any_eq_true.1 hd
      obtain ⟨u, v, e1, e2, h3, h4, h5, h6⟩ := hat c hc
      refine hon i j b hi hj hb ?_ hS.2
      unfold M.dc at hdc
      rw [e1, e2] at hdc
      simp only [Bool.or_eq_true, Bool.and_eq_true, beq_iff_eq] at hdc
      rcases hdc with ⟨k1, k2⟩ | ⟨⟨k0, k1⟩, k2⟩
      · obtain rfl : u = i := by omega
        obtain rfl : v = j := by omega
        exact h5
      · obtain rfl : u = j := by omega
        obtain rfl : v = i := by omega
        exact h6 k0
  · rw [M.policyGaps_t g gk] at hg
    have hall : ∀ c ∈ s.Channels, M.ck q c = true := by
      intro c hc
      obtain ⟨i, j, e1, e2, h3, h4⟩ := M.cv_nat g hc
      have hone : ∀ a b : Nat, a < s.Parts.length → b < s.Parts.length → M.dir s.Channels a b = true → M.at2 q a b = true := by
        intro a b ha hb hd
        cases hq : M.at2 q a b
        · have := M.gaps_mem_of ha hb (M.least_dir ha hb hd) hq
          rw [hg] at this; cases this
        · rfl
      unfold M.ck
      rw [e1, e2, Int.toNat_natCast, Int.toNat_natCast]
      have h5 : M.at2 q i j = true := hone i j h3 h4 (M.dir_mem hc (by unfold M.dc; rw [e1, e2]; simp))
      rw [h5]
      by_cases hk : c.Kind = 3
      · rw [hone j i h4 h3 (M.dir_mem hc (by unfold M.dc; rw [e1, e2, hk]; simp))]; simp
      · simp [hk]
    subst h
    show (s.Channels.filter (M.ck q)).length = _
    rw [List.filter_eq_self.2 hall]
end Sk

namespace Sk
open Go Go.Proofs Go.RowKit
set_option maxHeartbeats 1600000
set_option maxRecDepth 100000
set_option linter.unusedVariables false
set_option linter.unusedSimpArgs false
theorem Rsb.take {α : Type} [GT α] {L : Nat} {w : World} {a : Option Addr} {n c k : Nat} {xs : List α} (h : Rsb L w (.slice a n c) xs) (hk : k ≤ xs.length) : Rsb L w (.slice a k c) (xs.take k) := by
  obtain ⟨F, ⟨a', c', he, hl, hc, hr⟩, hL⟩ := h
  cases he
  have hlen : (xs.take k).length = k := by rw [List.length_take]; omega
  rcases hr with ⟨rfl, rfl⟩ | ⟨_, b, o, F', rfl, rfl, hr⟩
  · exact ⟨[], ⟨_, c, by rw [hlen], by rw [hlen]; exact Nat.le_trans hk hl, hc, .inl ⟨by simp, rfl⟩⟩, hL⟩
  · rw [← List.take_append_drop k xs] at hr
    obtain ⟨F1, F2, rfl, h1, _⟩ := hr.split
    by_cases hx : xs.take k = []
    · exact ⟨[], ⟨_, c, by rw [hlen], by rw [hlen]; exact Nat.le_trans hk hl, hc, .inl ⟨hx, rfl⟩⟩, fun k hk => by cases hk⟩
    · exact ⟨b :: F1, ⟨_, c, by rw [hlen], by rw [hlen]; exact Nat.le_trans hk hl, hc, .inr ⟨hx, b, o, F1, rfl, rfl, h1⟩⟩, fun k hk => hL k (by
        rcases List.mem_cons.1 hk with rfl | hk
        · exact List.mem_cons_self ..
        · exact List.mem_cons_of_mem _ (List.mem_append_left _ hk))⟩
end Sk

namespace Sk
open Go Go.Proofs Go.RowKit
set_option maxHeartbeats 1600000
set_option maxRecDepth 100000
set_option linter.unusedVariables false
set_option linter.unusedSimpArgs false
theorem Rvb.openS {L : Nat} {w : World} {v : Value} {s : Setup} (h : Rvb L w v s) : ∃ a0 c0 a1 c1 a2 c2, v = .agg #[.slice a0 s.Parts.length c0, .slice a1 s.Channels.length c1, .slice a2 s.Slots.length c2] ∧ s.Parts.length ≤ 9223372036854775807 ∧ s.Channels.length ≤ 9223372036854775807 ∧ s.Slots.length ≤ 9223372036854775807 := by
  obtain ⟨cs, F, rfl, ⟨v0, v1, v2, F0, F1, F2, rfl, h0, h1, h2, rfl⟩, _⟩ := h
  obtain ⟨a0, c0, rfl, g0⟩ := (show Rs w v0 s.Parts from ⟨_, h0⟩).form
  obtain ⟨a1, c1, rfl, g1⟩ := (show Rs w v1 s.Channels from ⟨_, h1⟩).form
  obtain ⟨a2, c2, rfl, g2⟩ := (show Rs w v2 s.Slots from ⟨_, h2⟩).form
  exact ⟨_, _, _, _, _, _, rfl, g0, g1, g2⟩
theorem Rvb.ext {α : Type} [GT α] {L : Nat} {w w' : World} {v : Value} {x : α} (h : Rvb L w v x) (k : Ext w w') : Rvb L w' v x := by
  obtain ⟨cs, F, h1, h2, h3⟩ := h
  exact ⟨cs, F, h1, GT.ext h2 k, h3⟩
theorem Rvb.set {α : Type} [GT α] {L : Nat} {w : World} {v : Value} {x : α} (h : Rvb L w v x) {p : Addr} (hp : p.block < L) (u : Value) : Rvb L (w.setCell p u) v x := by
  obtain ⟨cs, F, h1, h2, h3⟩ := h
  exact ⟨cs, F, h1, GT.keep h2 (fun k hk => heap_set_ne (by have := h3 k hk; omega)), h3⟩
theorem Rvb.mw {α : Type} [GT α] {L : Nat} {w w' : World} {v : Value} {x : α} {F : List Nat} (h : Rvb L w v x) (k : Mw F w w') (hF : ∀ y ∈ F, y < L) : Rvb L w' v x := by
  obtain ⟨cs, G, h1, h2, h3⟩ := h
  exact ⟨cs, G, h1, k.enc h2 (fun y hy hf => by have := h3 y hy; have := hF y hf; omega), h3⟩
theorem Rvb.mono {α : Type} [GT α] {L L' : Nat} {w : World} {v : Value} {x : α} (h : Rvb L w v x) (k : L' ≤ L) : Rvb L' w v x := by
  obtain ⟨cs, F, h1, h2, h3⟩ := h
  exact ⟨cs, F, h1, h2, fun y hy => Nat.le_trans k (h3 y hy)⟩
end Sk

