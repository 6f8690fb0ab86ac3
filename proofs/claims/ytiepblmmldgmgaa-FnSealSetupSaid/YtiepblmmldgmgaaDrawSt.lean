/- Contracts of functions of the given program, and lemmas for them: each theorem states the condition under which it holds. -/
import Derived.Test.YtiepblmmldgmgaaChecked
import Derived.Deep.CutBlock
import Derived.Deep.CutRange
import Derived.ChangeArms
import Derived.Test.YtiepblmmldgmgaaDrawPV
import Derived.Test.YtiepblmmldgmgaaDrawCh
import Derived.Test.YtiepblmmldgmgaaReadS
import Derived.Test.YtiepblmmldgmgaaDel
import Derived.Test.YtiepblmmldgmgaaPol
import Derived.Test.YtiepblmmldgmgaaRead
import Derived.Test.YtiepblmmldgmgaaTypes
import Derived.Test.YtiepblmmldgmgaaDrawS
import Derived.Test.YtiepblmmldgmgaaBuild
import Derived.Test.YtiepblmmldgmgaaDrawPol
import Derived.Test.YtiepblmmldgmgaaDrawW
namespace Sk
open Go Go.Proofs Go.RowKit
set_option maxHeartbeats 1600000
set_option maxRecDepth 100000
set_option linter.unusedVariables false
set_option linter.unusedSimpArgs false
/-- A slice that one reads through blocks from L on, none of them of G. -/
def Rsx {α : Type} [GT α] (G : List Nat) (L : Nat) (w : World) (v : Value) (xs : List α) : Prop := ∃ F, Sl w v xs F ∧ ∀ k ∈ F, L ≤ k ∧ k ∉ G
theorem Rsx.mw {α : Type} [GT α] {G F : List Nat} {L : Nat} {w w' : World} {v : Value} {xs : List α} (h : Rsx G L w v xs) (k : Mw F w w') (hF : ∀ x ∈ F, x ∈ G) : Rsx G L w' v xs := by
  obtain ⟨K, h1, h2⟩ := h
  exact ⟨K, k.sl h1 (fun y hy hf => (h2 y hy).2 (hF y hf)), h2⟩
theorem Rsb.x {α : Type} [GT α] {G : List Nat} {L L' : Nat} {w : World} {v : Value} {xs : List α} (h : Rsb L w v xs) (hG : ∀ x ∈ G, x < L ∨ w.heap.size ≤ x) (hL : L' ≤ L) : Rsx G L' w v xs := by
  obtain ⟨K, h1, h2⟩ := h
  exact ⟨K, h1, fun k hk => ⟨Nat.le_trans hL (h2 k hk), fun hm => by have := h1.inh k hk; have := h2 k hk; rcases hG k hm with h | h <;> omega⟩⟩
theorem Rsx.ext {α : Type} [GT α] {G : List Nat} {L : Nat} {w w' : World} {v : Value} {xs : List α} (h : Rsx G L w v xs) (k : Ext w w') : Rsx G L w' v xs := h.mw (F := []) (Mw.ofExt k) (by simp)
theorem Rsx.set {α : Type} [GT α] {G : List Nat} {L : Nat} {w : World} {v : Value} {xs : List α} (h : Rsx G L w v xs) {p : Addr} (hp : p.block ∈ G) (u : Value) : Rsx G L (w.setCell p u) v xs :=
  h.mw (F := [p.block]) (Mw.ofMo ((Mo.refl _ _).set (by simp) u)) (by simpa using hp)
theorem M.drawn_tot {s : Setup} (h5 : s.Parts.length ≤ 6) (hw : ∀ x ∈ s.Parts, x.Windows.length ≤ 20) (h8 : s.Channels.length ≤ 9) (h12 : s.Slots.length ≤ 13) : GT.tot s ≤ 1000 := by
  have hp := tot_list 30 6 s.Parts h5 (fun x hx => by
    have := tot_list 0 20 x.Windows (hw x hx) (fun y _ => Nat.le_refl _)
    show GT.tot x.Windows + GT.tot x.Cells ≤ _
    have h0 : GT.tot x.Cells = 0 := rfl
    omega)
  have hc := tot_list 0 9 s.Channels h8 (fun y _ => Nat.le_refl _)
  have hs := tot_list 0 13 s.Slots h12 (fun y _ => Nat.le_refl _)
  show GT.tot s.Parts + GT.tot s.Channels + GT.tot s.Slots ≤ _
  omega
/-- What is known of a setup that was drawn. -/
def M.drawn (s : Setup) : Prop := s.Parts.length ≤ 6 ∧ (∀ x ∈ s.Parts, x.Windows.length ≤ 20) ∧ s.Channels.length ≤ 9 ∧ s.Slots.length ≤ 13
theorem M.drawn.tot {s : Setup} (h : M.drawn s) : GT.tot s ≤ 1000 := M.drawn_tot h.1 h.2.1 h.2.2.1 h.2.2.2
theorem spec_l20Setup (W w : World) (b m : Nat) (n : Int) (h : Rd W w b (m + 500)) (hn1 : -1000000 ≤ n) (hn2 : n ≤ 1000000) :
    Calls Try.prog 32 #[.pointer (some ⟨b, 0, none⟩), .int .i64 n] w fun e w' => ∃ v s, e = .returned v ∧ Rvb (α := Setup) w.heap.size w' v s ∧ M.drawn s ∧ Mw [b] w w' ∧ Rd W w' b m := by
  have H := Lib.hid h
  have hbl := h.lt
  have hbW := h.1
  have hWw := h.2.1.sz
  clear h
  go_enter Try.func32, Try.ntmps32
  go_upto_region 1 with (fail)
  refine abs_world (fun W0 => Ext w W0 ∧ Bk W0 w.heap.size [.slice none 0 0, .slice none 0 0, .slice none 0 0] 27) ⟨(Ext.refl _).alloc _, Bk.new _ _ _⟩ ?_
  rintro W0 ⟨e0, kA⟩
  have HRD := Lib.hid (H.out.ext e0)
  have HMW : Hid (Mw [b] w W0) := Lib.hid (Mw.ofExt e0)
  have hAl := kA.lt
  have KA := Lib.hid kA
  clear e0 H kA
  go_upto_region 2 with (go_at_call 63; refine (spec_l20Parts W _ b (m + 100) _ HRD.out (by omega) (by omega)).mono ?_; rintro e w1 ⟨v0, ps, rfl, hp, ⟨hpl, hpw⟩, hm, hr⟩; obtain ⟨p0, q0, rfl, hq0⟩ := hp.form; have hs1 := hm.size; replace HMW := Lib.hid (HMW.out.tr hm); replace KA := Lib.hid (hm.bk KA.out (by simp; omega)); replace HRD := Lib.hid hr; have HP := Lib.hid hp; have HPW := Lib.hid hpw; clear hm hr hp hpw)
  obtain ⟨B, hB⟩ : ∃ B, B = w1.heap.size := ⟨_, rfl⟩
  have hBA : w.heap.size < B := by omega
  refine abs_world (fun u => Mw [b] w u ∧ Rd W u b (m + 100) ∧ Bk u w.heap.size [.slice none 0 0, .slice none 0 0, .slice none 0 0] 27 ∧ Bk u B [.slice p0 ps.length q0, .slice none 0 0, .slice none 0 0] 27 ∧ Rsx [b, w.heap.size, B] w.heap.size u (.slice p0 ps.length q0) ps)
    ⟨HMW.out.tr (Mw.ofExt ((Ext.refl _).alloc _)), HRD.out.ext ((Ext.refl _).alloc _), KA.out.ext ((Ext.refl _).alloc _), by rw [hB]; exact Bk.new _ _ _, (HP.out.x (by simp; omega) (by omega)).ext ((Ext.refl _).alloc _)⟩ ?_
  rw [← hB]
  clear HMW HRD KA HP hB
  rintro w2 ⟨mw2, rd2, ka2, kb2, hx2⟩
  have HMW := Lib.hid mw2; have HRD := Lib.hid rd2; have KA := Lib.hid ka2; have KB := Lib.hid kb2; have HX := Lib.hid hx2
  have hBl := kb2.lt
  have c0 := kb2.cell (j := 0) rfl
  clear mw2 rd2 ka2 kb2 hx2
  go_upto_region 3 with (go_at_call 64; refine (spec_l20Channels W _ b (m + 60) _ _ HRD.out (by omega) (by omega) (by omega)).mono ?_; rintro e w3 ⟨v1, cs, rfl, hp, hcl, hm, hr⟩; obtain ⟨p1, q1, rfl, hq1⟩ := hp.form; have hs3 := hm.size; replace HMW := Lib.hid (HMW.out.tr hm); replace KA := Lib.hid (hm.bk KA.out (by simp; omega)); replace KB := Lib.hid (hm.bk KB.out (by simp; omega)); replace HX := Lib.hid (HX.out.mw hm (by simp)); replace HRD := Lib.hid hr; have HC := Lib.hid (hp.x (G := [b, w.heap.size, B]) (L' := w.heap.size) (by simp; omega) (by omega)); have b1 := KB.out.cell (j := 1) rfl; have bf := KB.out.fz 1; clear hm hr hp)
  refine abs_world (fun u => Mw [b] w u ∧ Rd W u b (m + 60) ∧ Bk u w.heap.size [.slice none 0 0, .slice none 0 0, .slice none 0 0] 27 ∧ Bk u B [.slice p0 ps.length q0, .slice p1 cs.length q1, .slice none 0 0] 27 ∧ Rsx [b, w.heap.size, B] w.heap.size u (.slice p0 ps.length q0) ps ∧ Rsx [b, w.heap.size, B] w.heap.size u (.slice p1 cs.length q1) cs ∧ B < u.heap.size)
    ⟨HMW.out.set (.inr (by show _ ≤ B; omega)) _, HRD.out.set (by show b ≠ B; omega) (by show _ ≤ B; omega) _, KA.out.set_ne (by show w.heap.size ≠ B; omega) _, by have := KB.out.set 1 (.slice p1 cs.length q1); simpa using this, HX.out.set (by simp) _, HC.out.set (by simp) _, by simp; omega⟩ ?_
  clear HMW HRD KA KB HX HC b1 bf
  rintro w4 ⟨mw2, rd2, ka2, kb2, hx2, hc2, hBl4⟩
  have HMW := Lib.hid mw2; have HRD := Lib.hid rd2; have KA := Lib.hid ka2; have KB := Lib.hid kb2; have HX := Lib.hid hx2; have HC := Lib.hid hc2
  have c4 := kb2.cell (j := 0) rfl
  clear mw2 rd2 ka2 kb2 hx2 hc2 c0
  go_upto_region 4 with (go_at_call 65; refine (spec_l20Slots W _ b (m + 30) _ _ (HRD.out.le (by omega)) (by omega) (by omega) (by omega)).mono ?_; rintro e w5 ⟨v2, ss, rfl, hp, hsl, hm, hr⟩; obtain ⟨p2, q2, rfl, hq2⟩ := hp.form; have hs5 := hm.size; replace HMW := Lib.hid (HMW.out.tr hm); replace KA := Lib.hid (hm.bk KA.out (by simp; omega)); replace KB := Lib.hid (hm.bk KB.out (by simp; omega)); replace HX := Lib.hid (HX.out.mw hm (by simp)); replace HC := Lib.hid (HC.out.mw hm (by simp)); replace HRD := Lib.hid hr; have HS := Lib.hid (hp.x (G := [b, w.heap.size, B]) (L' := w.heap.size) (by simp; omega) (by omega)); have b2 := KB.out.cell (j := 2) rfl; have bf := KB.out.fz 2; clear hm hr hp)
  refine abs_world (fun u => Mw [b] w u ∧ Rd W u b m ∧ Bk u w.heap.size [.slice none 0 0, .slice none 0 0, .slice none 0 0] 27 ∧ Bk u B [.slice p0 ps.length q0, .slice p1 cs.length q1, .slice p2 ss.length q2] 27 ∧ Rsx [b, w.heap.size, B] w.heap.size u (.slice p0 ps.length q0) ps ∧ Rsx [b, w.heap.size, B] w.heap.size u (.slice p1 cs.length q1) cs ∧ Rsx [b, w.heap.size, B] w.heap.size u (.slice p2 ss.length q2) ss)
    ⟨HMW.out.set (.inr (by show _ ≤ B; omega)) _, (HRD.out.set (by show b ≠ B; omega) (by show _ ≤ B; omega) _).le (by omega), KA.out.set_ne (by show w.heap.size ≠ B; omega) _, by have := KB.out.set 2 (.slice p2 ss.length q2); simpa using this, HX.out.set (by simp) _, HC.out.set (by simp) _, HS.out.set (by simp) _⟩ ?_
  clear HMW HRD KA KB HX HC HS b2 bf c4
  rintro w6 ⟨mw2, rd2, ka2, kb2, hx2, hc2, hs2⟩
  have a0 := ka2.cell (j := 0) rfl
  have a1 := ka2.cell (j := 1) rfl
  have a2 := ka2.cell (j := 2) rfl
  have af := ka2.fz
  have al := ka2.lt
  have b0 := kb2.cell (j := 0) rfl
  have b1 := kb2.cell (j := 1) rfl
  have b2 := kb2.cell (j := 2) rfl
  have bl := kb2.lt
  have HMW := Lib.hid mw2; have HRD := Lib.hid rd2; have HX := Lib.hid hx2; have HC := Lib.hid hc2; have HS := Lib.hid hs2
  clear mw2 rd2 ka2 kb2 hx2 hc2 hs2
  go_wp2
  refine bodyPost_ret (v := .agg #[.slice p0 ps.length q0, .slice p1 cs.length q1, .slice p2 ss.length q2]) (by simp [results, Try.results32, go_sem, a0, a1, a2]) rfl ⟨_, ⟨ps, cs, ss⟩, rfl, ?_, ⟨hpl, HPW.out, hcl, hsl⟩, ?_, ?_⟩
  · obtain ⟨F0, h0, k0⟩ := ((HX.out.set (p := ⟨w.heap.size, 0, none⟩) (by simp) (.slice p0 ps.length q0)).set (p := ⟨w.heap.size, 1, none⟩) (by simp) (.slice p1 cs.length q1)).set (p := ⟨w.heap.size, 2, none⟩) (by simp) (.slice p2 ss.length q2)
    obtain ⟨F1, h1, k1⟩ := ((HC.out.set (p := ⟨w.heap.size, 0, none⟩) (by simp) (.slice p0 ps.length q0)).set (p := ⟨w.heap.size, 1, none⟩) (by simp) (.slice p1 cs.length q1)).set (p := ⟨w.heap.size, 2, none⟩) (by simp) (.slice p2 ss.length q2)
    obtain ⟨F2, h2, k2⟩ := ((HS.out.set (p := ⟨w.heap.size, 0, none⟩) (by simp) (.slice p0 ps.length q0)).set (p := ⟨w.heap.size, 1, none⟩) (by simp) (.slice p1 cs.length q1)).set (p := ⟨w.heap.size, 2, none⟩) (by simp) (.slice p2 ss.length q2)
    exact ⟨[_, _, _], _, rfl, ⟨_, _, _, F0, F1, F2, rfl, h0, h1, h2, rfl⟩, fun k hk => by
      rcases List.mem_append.1 hk with hk | hk
      · exact (k0 k hk).1
      · rcases List.mem_append.1 hk with hk | hk
        · exact (k1 k hk).1
        · exact (k2 k hk).1⟩
  · exact ((HMW.out.set (.inr (Nat.le_refl _)) _).set (.inr (Nat.le_refl _)) _).set (.inr (Nat.le_refl _)) _
  · exact ((HRD.out.set (by show b ≠ w.heap.size; omega) hWw _).set (by show b ≠ w.heap.size; omega) hWw _).set (by show b ≠ w.heap.size; omega) hWw _
end Sk

namespace Sk
open Go Go.Proofs Go.RowKit Go.ChangeShapes Go.WideShapes Go.ChangeAt Go.Deep
set_option maxHeartbeats 1600000
set_option maxRecDepth 100000
set_option linter.unusedVariables false
set_option linter.unusedSimpArgs false
theorem Rdr.byte {P : Program} {t : TypeId} (ht : P.underlying t = some (.int .u8)) (hc : P.cellsOf t = 1) : Rdr P t By :=
  ⟨hc, fun h => by
    obtain ⟨n, rfl, _, hw⟩ := DataW.trod_int ht h
    obtain ⟨h1, h2⟩ := bounds_u8 hw
    exact ⟨⟨n⟩, [], rfl, h1, h2, rfl⟩⟩
theorem rd_uint8S : Rdr Try.prog 22 (List By) := .slice (.byte Try.underlying5 (by kernel_rfl)) Try.underlying22 (by kernel_rfl)
end Sk

namespace Sk
open Go Go.Proofs Go.RowKit
set_option maxHeartbeats 1600000
set_option maxRecDepth 100000
set_option linter.unusedVariables false
set_option linter.unusedSimpArgs false
theorem Rsb.take {α : Type} [GT α] {L : Nat} {w : World} {a : Option Addr} {n c k : Nat} {xs : List α} (h : Rsb L w (.slice a n c) xs) (hk : k ≤ xs.length) : Rsb L w (.slice a k c) (xs.take k) := by
  obtain ⟨F, ⟨a', c', he, hl, hc, hr⟩, hL⟩ := h
  cases he
  have hlen : (xs.take k).length = k := by rw [List.length_take]; omega
  rcases hr with ⟨rfl, rfl⟩ | ⟨_, b, o, F', rfl, rfl, hr⟩
  · exact ⟨[], ⟨_, c, by rw [hlen], by rw [hlen]; exact Nat.le_trans hk hl, hc, .inl ⟨by simp, rfl⟩⟩, hL⟩
  · rw [← List.take_append_drop k xs] at hr
    obtain ⟨F1, F2, rfl, h1, _⟩ := hr.split
    by_cases hx : xs.take k = []
    · exact ⟨[], ⟨_, c, by rw [hlen], by rw [hlen]; exact Nat.le_trans hk hl, hc, .inl ⟨hx, rfl⟩⟩, fun k hk => by cases hk⟩
    · exact ⟨b :: F1, ⟨_, c, by rw [hlen], by rw [hlen]; exact Nat.le_trans hk hl, hc, .inr ⟨hx, b, o, F1, rfl, rfl, h1⟩⟩, fun k hk => hL k (by
        rcases List.mem_cons.1 hk with rfl | hk
        · exact List.mem_cons_self ..
        · exact List.mem_cons_of_mem _ (List.mem_append_left _ hk))⟩
theorem Oo.setI {e : TypeId} {L : Nat} {w : World} {G n c i : Nat} {xs : List Int} {y : Int} (h : Oo e L w (.slice (some ⟨G, 0, none⟩) n c) xs) (hi : i < xs.length) (hy : rng y) :
    Oo e L (w.setCell ⟨G, i, none⟩ (.int .i64 y)) (.slice (some ⟨G, 0, none⟩) n c) (xs.set i y) := by
  obtain ⟨F, hA, ho⟩ := h
  rcases hA with ⟨h, _⟩ | ⟨G, cap, cur, he, hL, hg, hl, hc, hs, hr, hn⟩
  · cases h
  · cases he
    have hF := hr.fl
    subst hF
    have hB := (Bk.ofA hg).set i (.int .i64 y)
    obtain ⟨cs0, F1, x0, _, hx0, hxa, _⟩ := hr.get i hi
    obtain ⟨rfl, _, rfl⟩ := hx0
    have h0 := hxa 0 _ rfl
    simp only [GT.sz, Nat.mul_one, Nat.zero_add, Nat.add_zero] at h0
    obtain ⟨F1, F0, F2, hF, _, hrow⟩ := hr.upd (w' := w.setCell ⟨G, i, none⟩ (.int .i64 y)) (y := y) (cs := [.int .i64 y]) (Fy := []) i hi (fun k hk => by cases hk) (fun o' ho' => cell_set_other (by simp only [GT.sz] at ho'; omega)) ⟨rfl, hy, rfl⟩ (fun j u hj => by
      cases j with
      | zero =>
        cases hj
        simp only [GT.sz, Nat.mul_one, Nat.zero_add, Nat.add_zero]
        exact World.cell?_setCell_same _ _ _ h0
      | succ j => cases hj)
    refine ⟨[], .inr ⟨G, c, _, by simp, hL, hB, by simpa using hl, hc, by simpa using hs, ?_, by simp⟩, Own.nil _ _⟩
    have := hrow.fl
    rwa [this] at hrow
/-- The numbers of an owned list (of type 3) in memory. -/
theorem Oo.addrI {L : Nat} {w : World} {a : Option Addr} {n c : Nat} {xs : List Int} (h : Oo 3 L w (.slice a n c) xs) (hx : 0 < xs.length) :
    ∃ G, a = some ⟨G, 0, none⟩ ∧ n = xs.length ∧ L ≤ G ∧ G < w.heap.size ∧ (∀ j, w.frozen? ⟨G, j, none⟩ = false) ∧ ∀ i, i < xs.length → ∃ y : Int, w.cell? ⟨G, i, none⟩ = some (.int .i64 y) := by
  obtain ⟨F, hA, ho⟩ := h
  rcases hA with ⟨_, rfl, _⟩ | ⟨G, cap, cur, he, hL, hg, hl, hc, hs, hr, hn⟩
  · cases hx
  · cases he
    refine ⟨G, rfl, rfl, hL, (Bk.ofA hg).lt, fun j => (Bk.ofA hg).fz j, fun i hi => ?_⟩
    obtain ⟨cs0, F1, x0, _, hx0, hxa, _⟩ := hr.get i hi
    obtain ⟨rfl, _, rfl⟩ := hx0
    have h0 := hxa 0 _ rfl
    simp only [GT.sz, Nat.mul_one, Nat.zero_add, Nat.add_zero] at h0
    exact ⟨_, h0⟩
theorem Oo.cellI {L G : Nat} {w : World} {n c : Nat} {xs : List Int} (h : Oo 3 L w (.slice (some ⟨G, 0, none⟩) n c) xs) (hx : 0 < xs.length) :
    G < w.heap.size ∧ (∀ j, w.frozen? ⟨G, j, none⟩ = false) ∧ ∀ i, i < xs.length → ∃ y : Int, w.cell? ⟨G, i, none⟩ = some (.int .i64 y) := by
  obtain ⟨_, he, _, _, h1, h2, h3⟩ := h.addrI hx
  cases he
  exact ⟨h1, h2, h3⟩
end Sk

namespace Sk
open Go Go.Proofs Go.RowKit
set_option maxHeartbeats 1600000
set_option maxRecDepth 100000
set_option linter.unusedVariables false
set_option linter.unusedSimpArgs false
theorem Rvb.openS {L : Nat} {w : World} {v : Value} {s : Setup} (h : Rvb L w v s) : ∃ a0 c0 a1 c1 a2 c2, v = .agg #[.slice a0 s.Parts.length c0, .slice a1 s.Channels.length c1, .slice a2 s.Slots.length c2] ∧ s.Parts.length ≤ 9223372036854775807 ∧ s.Channels.length ≤ 9223372036854775807 ∧ s.Slots.length ≤ 9223372036854775807 := by
  obtain ⟨cs, F, rfl, ⟨v0, v1, v2, F0, F1, F2, rfl, h0, h1, h2, rfl⟩, _⟩ := h
  obtain ⟨a0, c0, rfl, g0⟩ := (show Rs w v0 s.Parts from ⟨_, h0⟩).form
  obtain ⟨a1, c1, rfl, g1⟩ := (show Rs w v1 s.Channels from ⟨_, h1⟩).form
  obtain ⟨a2, c2, rfl, g2⟩ := (show Rs w v2 s.Slots from ⟨_, h2⟩).form
  exact ⟨_, _, _, _, _, _, rfl, g0, g1, g2⟩
theorem Rvb.ext {α : Type} [GT α] {L : Nat} {w w' : World} {v : Value} {x : α} (h : Rvb L w v x) (k : Ext w w') : Rvb L w' v x := by
  obtain ⟨cs, F, h1, h2, h3⟩ := h
  exact ⟨cs, F, h1, GT.ext h2 k, h3⟩
theorem Rvb.set {α : Type} [GT α] {L : Nat} {w : World} {v : Value} {x : α} (h : Rvb L w v x) {p : Addr} (hp : p.block < L) (u : Value) : Rvb L (w.setCell p u) v x := by
  obtain ⟨cs, F, h1, h2, h3⟩ := h
  exact ⟨cs, F, h1, GT.keep h2 (fun k hk => heap_set_ne (by have := h3 k hk; omega)), h3⟩
theorem Rvb.mw {α : Type} [GT α] {L : Nat} {w w' : World} {v : Value} {x : α} {F : List Nat} (h : Rvb L w v x) (k : Mw F w w') (hF : ∀ y ∈ F, y < L) : Rvb L w' v x := by
  obtain ⟨cs, G, h1, h2, h3⟩ := h
  exact ⟨cs, G, h1, k.enc h2 (fun y hy hf => by have := h3 y hy; have := hF y hf; omega), h3⟩
theorem Rvb.mono {α : Type} [GT α] {L L' : Nat} {w : World} {v : Value} {x : α} (h : Rvb L w v x) (k : L' ≤ L) : Rvb L' w v x := by
  obtain ⟨cs, F, h1, h2, h3⟩ := h
  exact ⟨cs, F, h1, h2, fun y hy => Nat.le_trans k (h3 y hy)⟩
end Sk

namespace Sk
open Go Go.Proofs Go.RowKit
set_option maxHeartbeats 1600000
set_option maxRecDepth 100000
set_option linter.unusedVariables false
set_option linter.unusedSimpArgs false
theorem key_lit {w : World} {B : Nat} {T : TypeId} {a c z : Int} (h : Bk w B [.int .i64 a, .int .i64 c, .int .i64 (-1), .int .i64 1048572, .int .i64 1048573] T) (ha : 0 ≤ a ∧ a ≤ 1044735) (hc : 0 ≤ c ∧ c ≤ 255) (hz : 0 ≤ z ∧ z ≤ 4) :
    ∃ y : Int, w.cell? ⟨B, z.toNat, none⟩ = some (.int .i64 y) ∧ -1 ≤ y ∧ y ≤ 1048573 := by
  obtain rfl | rfl | rfl | rfl | rfl : z = 0 ∨ z = 1 ∨ z = 2 ∨ z = 3 ∨ z = 4 := by omega
  · exact ⟨_, h.cell (j := 0) rfl, by omega, by omega⟩
  · exact ⟨_, h.cell (j := 1) rfl, by omega, by omega⟩
  · exact ⟨_, h.cell (j := 2) rfl, by omega, by omega⟩
  · exact ⟨_, h.cell (j := 3) rfl, by omega, by omega⟩
  · exact ⟨_, h.cell (j := 4) rfl, by omega, by omega⟩
theorem spec_l20Key (W w : World) (b m : Nat) (h : Rd W w b (m + 3)) :
    Calls Try.prog 57 #[.pointer (some ⟨b, 0, none⟩)] w fun e w' => ∃ z : Int, e = .returned (.int .i64 z) ∧ (-1 ≤ z ∧ z ≤ 1048573) ∧ Mw [b] w w' ∧ Rd W w' b m := by
  have H := Lib.hid h
  have hbl := h.lt
  clear h
  go_enter Try.func57, Try.ntmps57
  go_wp2_with (first
    | (go_at_call 62; refine (spec_pick W _ b m _ (HR2.out.ext (((Ext.refl w2).alloc _).alloc _)) (rng_sm (by omega) (by omega))).mono ?_; rintro e w3 ⟨k3, rfl, hk, hm, hr⟩; obtain ⟨z, hz1, hz2⟩ := lit_pick (zs := [0, 0, 0, 1, 1, 2, 3, 4]) hm (by simp; omega) hk rfl (by simp); have hk3 := hk.lt (by omega); obtain ⟨hk31, hk32⟩ := hk3; have hzb : 0 ≤ z ∧ z ≤ 4 := (by simp only [List.mem_cons, List.not_mem_nil, or_false] at hz2; omega); rw [show (w2.alloc (.cells #[.int .i64 (k1 * 4097), .int .i64 k2, .int .i64 (-1), .int .i64 1048572, .int .i64 1048573] 3)).heap.size = w2.heap.size + 1 by simp] at hz1; obtain ⟨y, hy1, hy2⟩ := key_lit (z := z) (hm.bk ((Bk.new w2 [.int .i64 (k1 * 4097), .int .i64 k2, .int .i64 (-1), .int .i64 1048572, .int .i64 1048573] 3).ext ((Ext.refl _).alloc _)) (by simp; omega)) (by omega) (by omega) hzb; have hlw := hm.lt; have hlz : w2.heap.size + 1 < w3.heap.size := (by rw [hlw]; simp); obtain ⟨hz3, hz4⟩ := hzb; have HM3 := Lib.hid ((HM2.out.tr (Mw.ofExt (((Ext.refl w2).alloc _).alloc _))).tr (Mw.ofMo hm)); have HR3 := Lib.hid hr; clear hk hm hr hlw)
    | (go_at_call 62; refine (spec_pick W _ b _ _ HR1.out (rng_sm (by omega) (by omega))).mono ?_; rintro e w2 ⟨k2, rfl, hk, hm, hr⟩; have hk2 := hk.lt (by omega); obtain ⟨hk21, hk22⟩ := hk2; have HM2 := Lib.hid (HM1.out.tr (Mw.ofMo hm)); have HR2 := Lib.hid hr; have hl2 := hr.lt; clear hk hm hr)
    | (go_at_call 62; refine (spec_pick W _ b _ _ H.out (rng_sm (by omega) (by omega))).mono ?_; rintro e w1 ⟨k1, rfl, hk, hm, hr⟩; have hk1 := hk.lt (by omega); obtain ⟨hk11, hk12⟩ := hk1; have HM1 : Hid (Mw [b] w w1) := Lib.hid (Mw.ofMo hm); have HR1 := Lib.hid hr; clear hk hm hr))
  go_ret
  exact ⟨_, rfl, hy2, HM3.out, HR3.out⟩
end Sk

