/- Contracts of functions of the given program, and lemmas for them: each theorem states the condition under which it holds. -/
import Derived.Test.YtmkibejcdldjeaaChecked
import Derived.Deep.CutBlock
import Derived.Deep.CutRange
import Derived.ChangeArms
import Derived.Test.YtmkibejcdldjeaaDrawPt
import Derived.Test.YtmkibejcdldjeaaDrawCh
import Derived.Test.YtmkibejcdldjeaaSame
import Derived.Test.YtmkibejcdldjeaaLeastS
import Derived.Test.YtmkibejcdldjeaaDel
import Derived.Test.YtmkibejcdldjeaaDrawPol
import Derived.Test.YtmkibejcdldjeaaPol
import Derived.Test.YtmkibejcdldjeaaOwn
import Derived.Test.YtmkibejcdldjeaaTypes
import Derived.Test.YtmkibejcdldjeaaDrawS
import Derived.Test.YtmkibejcdldjeaaBuild
import Derived.Test.YtmkibejcdldjeaaGaps
namespace Sk
open Go Go.Proofs Go.RowKit
set_option maxHeartbeats 1600000
set_option maxRecDepth 100000
set_option linter.unusedVariables false
set_option linter.unusedSimpArgs false
/-- A slice that one reads through blocks from L on, none of them of G. -/
def Rsx {α : Type} [GT α] (G : List Nat) (L : Nat) (w : World) (v : Value) (xs : List α) : Prop := ∃ F, Sl w v xs F ∧ ∀ k ∈ F, L ≤ k ∧ k ∉ G
theorem Rsx.mw {α : Type} [GT α] {G F : List Nat} {L : Nat} {w w' : World} {v : Value} {xs : List α} (h : Rsx G L w v xs) (k : Mw F w w') (hF : ∀ x ∈ F, x ∈ G) : Rsx G L w' v xs := by
  obtain ⟨K, h1, h2⟩ := h
  exact ⟨K, k.sl h1 (fun y hy hf => (h2 y hy).2 (hF y hf)), h2⟩
theorem Rsb.x {α : Type} [GT α] {G : List Nat} {L L' : Nat} {w : World} {v : Value} {xs : List α} (h : Rsb L w v xs) (hG : ∀ x ∈ G, x < L ∨ w.heap.size ≤ x) (hL : L' ≤ L) : Rsx G L' w v xs := by
  obtain ⟨K, h1, h2⟩ := h
  exact ⟨K, h1, fun k hk => ⟨Nat.le_trans hL (h2 k hk), fun hm => by have := h1.inh k hk; have := h2 k hk; rcases hG k hm with h | h <;> omega⟩⟩
theorem Rsx.ext {α : Type} [GT α] {G : List Nat} {L : Nat} {w w' : World} {v : Value} {xs : List α} (h : Rsx G L w v xs) (k : Ext w w') : Rsx G L w' v xs := h.mw (F := []) (Mw.ofExt k) (by simp)
theorem Rsx.set {α : Type} [GT α] {G : List Nat} {L : Nat} {w : World} {v : Value} {xs : List α} (h : Rsx G L w v xs) {p : Addr} (hp : p.block ∈ G) (u : Value) : Rsx G L (w.setCell p u) v xs :=
  h.mw (F := [p.block]) (Mw.ofMo ((Mo.refl _ _).set (by simp) u)) (by simpa using hp)
theorem M.drawn_tot {s : Setup} (h5 : s.Parts.length ≤ 6) (hw : ∀ x ∈ s.Parts, x.Windows.length ≤ 20) (h8 : s.Channels.length ≤ 9) (h12 : s.Slots.length ≤ 13) : GT.tot s ≤ 1000 := by
  have hp := tot_list 30 6 s.Parts h5 (fun x hx => by
    have := tot_list 0 20 x.Windows (hw x hx) (fun y _ => Nat.le_refl _)
    show GT.tot x.Windows + GT.tot x.Cells ≤ _
    have h0 : GT.tot x.Cells = 0 := rfl
    omega)
  have hc := tot_list 0 9 s.Channels h8 (fun y _ => Nat.le_refl _)
  have hs := tot_list 0 13 s.Slots h12 (fun y _ => Nat.le_refl _)
  show GT.tot s.Parts + GT.tot s.Channels + GT.tot s.Slots ≤ _
  omega
/-- What is known of a setup that was drawn. -/
def M.drawn (s : Setup) : Prop := s.Parts.length ≤ 6 ∧ (∀ x ∈ s.Parts, x.Windows.length ≤ 20) ∧ s.Channels.length ≤ 9 ∧ s.Slots.length ≤ 13
theorem M.drawn.tot {s : Setup} (h : M.drawn s) : GT.tot s ≤ 1000 := M.drawn_tot h.1 h.2.1 h.2.2.1 h.2.2.2
theorem spec_l20Setup (W w : World) (b m : Nat) (n : Int) (h : Rd W w b (m + 500)) (hn1 : -1000000 ≤ n) (hn2 : n ≤ 1000000) :
    Calls Try.prog 42 #[.pointer (some ⟨b, 0, none⟩), .int .i64 n] w fun e w' => ∃ v s, e = .returned v ∧ Rvb (α := Setup) w.heap.size w' v s ∧ M.drawn s ∧ Mw [b] w w' ∧ Rd W w' b m := by
  have H := Lib.hid h
  have hbl := h.lt
  have hbW := h.1
  have hWw := h.2.1.sz
  clear h
  go_enter Try.func42, Try.ntmps42
  go_upto_region 1 with (fail)
  refine abs_world (fun W0 => Ext w W0 ∧ Bk W0 w.heap.size [.slice none 0 0, .slice none 0 0, .slice none 0 0] 27) ⟨(Ext.refl _).alloc _, Bk.new _ _ _⟩ ?_
  rintro W0 ⟨e0, kA⟩
  have HRD := Lib.hid (H.out.ext e0)
  have HMW : Hid (Mw [b] w W0) := Lib.hid (Mw.ofExt e0)
  have hAl := kA.lt
  have KA := Lib.hid kA
  clear e0 H kA
  go_upto_region 2 with (go_at_call 75; refine (spec_l20Parts W _ b (m + 100) _ HRD.out (by omega) (by omega)).mono ?_; rintro e w1 ⟨v0, ps, rfl, hp, ⟨hpl, hpw⟩, hm, hr⟩; obtain ⟨p0, q0, rfl, hq0⟩ := hp.form; have hs1 := hm.size; replace HMW := Lib.hid (HMW.out.tr hm); replace KA := Lib.hid (hm.bk KA.out (by simp; omega)); replace HRD := Lib.hid hr; have HP := Lib.hid hp; have HPW := Lib.hid hpw; clear hm hr hp hpw)
  obtain ⟨B, hB⟩ : ∃ B, B = w1.heap.size := ⟨_, rfl⟩
  have hBA : w.heap.size < B := by omega
  refine abs_world (fun u => Mw [b] w u ∧ Rd W u b (m + 100) ∧ Bk u w.heap.size [.slice none 0 0, .slice none 0 0, .slice none 0 0] 27 ∧ Bk u B [.slice p0 ps.length q0, .slice none 0 0, .slice none 0 0] 27 ∧ Rsx [b, w.heap.size, B] w.heap.size u (.slice p0 ps.length q0) ps)
    ⟨HMW.out.tr (Mw.ofExt ((Ext.refl _).alloc _)), HRD.out.ext ((Ext.refl _).alloc _), KA.out.ext ((Ext.refl _).alloc _), by rw [hB]; exact Bk.new _ _ _, (HP.out.x (by simp; omega) (by omega)).ext ((Ext.refl _).alloc _)⟩ ?_
  rw [← hB]
  clear HMW HRD KA HP hB
  rintro w2 ⟨mw2, rd2, ka2, kb2, hx2⟩
  have HMW := Lib.hid mw2; have HRD := Lib.hid rd2; have KA := Lib.hid ka2; have KB := Lib.hid kb2; have HX := Lib.hid hx2
  have hBl := kb2.lt
  have c0 := kb2.cell (j := 0) rfl
  clear mw2 rd2 ka2 kb2 hx2
  go_upto_region 3 with (go_at_call 76; refine (spec_l20Channels W _ b (m + 60) _ _ HRD.out (by omega) (by omega) (by omega)).mono ?_; rintro e w3 ⟨v1, cs, rfl, hp, hcl, hm, hr⟩; obtain ⟨p1, q1, rfl, hq1⟩ := hp.form; have hs3 := hm.size; replace HMW := Lib.hid (HMW.out.tr hm); replace KA := Lib.hid (hm.bk KA.out (by simp; omega)); replace KB := Lib.hid (hm.bk KB.out (by simp; omega)); replace HX := Lib.hid (HX.out.mw hm (by simp)); replace HRD := Lib.hid hr; have HC := Lib.hid (hp.x (G := [b, w.heap.size, B]) (L' := w.heap.size) (by simp; omega) (by omega)); have b1 := KB.out.cell (j := 1) rfl; have bf := KB.out.fz 1; clear hm hr hp)
  refine abs_world (fun u => Mw [b] w u ∧ Rd W u b (m + 60) ∧ Bk u w.heap.size [.slice none 0 0, .slice none 0 0, .slice none 0 0] 27 ∧ Bk u B [.slice p0 ps.length q0, .slice p1 cs.length q1, .slice none 0 0] 27 ∧ Rsx [b, w.heap.size, B] w.heap.size u (.slice p0 ps.length q0) ps ∧ Rsx [b, w.heap.size, B] w.heap.size u (.slice p1 cs.length q1) cs ∧ B < u.heap.size)
    ⟨HMW.out.set (.inr (by show _ ≤ B; omega)) _, HRD.out.set (by show b ≠ B; omega) (by show _ ≤ B; omega) _, KA.out.set_ne (by show w.heap.size ≠ B; omega) _, by have := KB.out.set 1 (.slice p1 cs.length q1); simpa using this, HX.out.set (by simp) _, HC.out.set (by simp) _, by simp; omega⟩ ?_
  clear HMW HRD KA KB HX HC b1 bf
  rintro w4 ⟨mw2, rd2, ka2, kb2, hx2, hc2, hBl4⟩
  have HMW := Lib.hid mw2; have HRD := Lib.hid rd2; have KA := Lib.hid ka2; have KB := Lib.hid kb2; have HX := Lib.hid hx2; have HC := Lib.hid hc2
  have c4 := kb2.cell (j := 0) rfl
  clear mw2 rd2 ka2 kb2 hx2 hc2 c0
  go_upto_region 4 with (go_at_call 77; refine (spec_l20Slots W _ b (m + 30) _ _ (HRD.out.le (by omega)) (by omega) (by omega) (by omega)).mono ?_; rintro e w5 ⟨v2, ss, rfl, hp, hsl, hm, hr⟩; obtain ⟨p2, q2, rfl, hq2⟩ := hp.form; have hs5 := hm.size; replace HMW := Lib.hid (HMW.out.tr hm); replace KA := Lib.hid (hm.bk KA.out (by simp; omega)); replace KB := Lib.hid (hm.bk KB.out (by simp; omega)); replace HX := Lib.hid (HX.out.mw hm (by simp)); replace HC := Lib.hid (HC.out.mw hm (by simp)); replace HRD := Lib.hid hr; have HS := Lib.hid (hp.x (G := [b, w.heap.size, B]) (L' := w.heap.size) (by simp; omega) (by omega)); have b2 := KB.out.cell (j := 2) rfl; have bf := KB.out.fz 2; clear hm hr hp)
  refine abs_world (fun u => Mw [b] w u ∧ Rd W u b m ∧ Bk u w.heap.size [.slice none 0 0, .slice none 0 0, .slice none 0 0] 27 ∧ Bk u B [.slice p0 ps.length q0, .slice p1 cs.length q1, .slice p2 ss.length q2] 27 ∧ Rsx [b, w.heap.size, B] w.heap.size u (.slice p0 ps.length q0) ps ∧ Rsx [b, w.heap.size, B] w.heap.size u (.slice p1 cs.length q1) cs ∧ Rsx [b, w.heap.size, B] w.heap.size u (.slice p2 ss.length q2) ss)
    ⟨HMW.out.set (.inr (by show _ ≤ B; omega)) _, (HRD.out.set (by show b ≠ B; omega) (by show _ ≤ B; omega) _).le (by omega), KA.out.set_ne (by show w.heap.size ≠ B; omega) _, by have := KB.out.set 2 (.slice p2 ss.length q2); simpa using this, HX.out.set (by simp) _, HC.out.set (by simp) _, HS.out.set (by simp) _⟩ ?_
  clear HMW HRD KA KB HX HC HS b2 bf c4
  rintro w6 ⟨mw2, rd2, ka2, kb2, hx2, hc2, hs2⟩
  have a0 := ka2.cell (j := 0) rfl
  have a1 := ka2.cell (j := 1) rfl
  have a2 := ka2.cell (j := 2) rfl
  have af := ka2.fz
  have al := ka2.lt
  have b0 := kb2.cell (j := 0) rfl
  have b1 := kb2.cell (j := 1) rfl
  have b2 := kb2.cell (j := 2) rfl
  have bl := kb2.lt
  have HMW := Lib.hid mw2; have HRD := Lib.hid rd2; have HX := Lib.hid hx2; have HC := Lib.hid hc2; have HS := Lib.hid hs2
  clear mw2 rd2 ka2 kb2 hx2 hc2 hs2
  go_wp2
  refine bodyPost_ret (v := .agg #[.slice p0 ps.length q0, .slice p1 cs.length q1, .slice p2 ss.length q2]) (by simp [results, Try.results42, go_sem, a0, a1, a2]) rfl ⟨_, ⟨ps, cs, ss⟩, rfl, ?_, ⟨hpl, HPW.out, hcl, hsl⟩, ?_, ?_⟩
  · obtain ⟨F0, h0, k0⟩ := ((HX.out.set (p := ⟨w.heap.size, 0, none⟩) (by simp) (.slice p0 ps.length q0)).set (p := ⟨w.heap.size, 1, none⟩) (by simp) (.slice p1 cs.length q1)).set (p := ⟨w.heap.size, 2, none⟩) (by simp) (.slice p2 ss.length q2)
    obtain ⟨F1, h1, k1⟩ := ((HC.out.set (p := ⟨w.heap.size, 0, none⟩) (by simp) (.slice p0 ps.length q0)).set (p := ⟨w.heap.size, 1, none⟩) (by simp) (.slice p1 cs.length q1)).set (p := ⟨w.heap.size, 2, none⟩) (by simp) (.slice p2 ss.length q2)
    obtain ⟨F2, h2, k2⟩ := ((HS.out.set (p := ⟨w.heap.size, 0, none⟩) (by simp) (.slice p0 ps.length q0)).set (p := ⟨w.heap.size, 1, none⟩) (by simp) (.slice p1 cs.length q1)).set (p := ⟨w.heap.size, 2, none⟩) (by simp) (.slice p2 ss.length q2)
    exact ⟨[_, _, _], _, rfl, ⟨_, _, _, F0, F1, F2, rfl, h0, h1, h2, rfl⟩, fun k hk => by
      rcases List.mem_append.1 hk with hk | hk
      · exact (k0 k hk).1
      · rcases List.mem_append.1 hk with hk | hk
        · exact (k1 k hk).1
        · exact (k2 k hk).1⟩
  · exact ((HMW.out.set (.inr (Nat.le_refl _)) _).set (.inr (Nat.le_refl _)) _).set (.inr (Nat.le_refl _)) _
  · exact ((HRD.out.set (by show b ≠ w.heap.size; omega) hWw _).set (by show b ≠ w.heap.size; omega) hWw _).set (by show b ≠ w.heap.size; omega) hWw _
end Sk

namespace Sk
open Go Go.Proofs Go.RowKit Go.ChangeShapes Go.WideShapes Go.ChangeAt Go.Deep
set_option maxHeartbeats 1600000
set_option maxRecDepth 100000
set_option linter.unusedVariables false
set_option linter.unusedSimpArgs false
theorem Rdr.byte {P : Program} {t : TypeId} (ht : P.underlying t = some (.int .u8)) (hc : P.cellsOf t = 1) : Rdr P t By :=
  ⟨hc, fun h => by
    obtain ⟨n, rfl, _, hw⟩ := DataW.trod_int ht h
    obtain ⟨h1, h2⟩ := bounds_u8 hw
    exact ⟨⟨n⟩, [], rfl, h1, h2, rfl⟩⟩
theorem rd_uint8S : Rdr Try.prog 22 (List By) := .slice (.byte Try.underlying5 (by kernel_rfl)) Try.underlying22 (by kernel_rfl)
end Sk

namespace Sk
open Go Go.Proofs Go.RowKit
set_option maxHeartbeats 1600000
set_option maxRecDepth 100000
set_option linter.unusedVariables false
set_option linter.unusedSimpArgs false
theorem Rsb.take {α : Type} [GT α] {L : Nat} {w : World} {a : Option Addr} {n c k : Nat} {xs : List α} (h : Rsb L w (.slice a n c) xs) (hk : k ≤ xs.length) : Rsb L w (.slice a k c) (xs.take k) := by
  obtain ⟨F, ⟨a', c', he, hl, hc, hr⟩, hL⟩ := h
  cases he
  have hlen : (xs.take k).length = k := by rw [List.length_take]; omega
  rcases hr with ⟨rfl, rfl⟩ | ⟨_, b, o, F', rfl, rfl, hr⟩
  · exact ⟨[], ⟨_, c, by rw [hlen], by rw [hlen]; exact Nat.le_trans hk hl, hc, .inl ⟨by simp, rfl⟩⟩, hL⟩
  · rw [← List.take_append_drop k xs] at hr
    obtain ⟨F1, F2, rfl, h1, _⟩ := hr.split
    by_cases hx : xs.take k = []
    · exact ⟨[], ⟨_, c, by rw [hlen], by rw [hlen]; exact Nat.le_trans hk hl, hc, .inl ⟨hx, rfl⟩⟩, fun k hk => by cases hk⟩
    · exact ⟨b :: F1, ⟨_, c, by rw [hlen], by rw [hlen]; exact Nat.le_trans hk hl, hc, .inr ⟨hx, b, o, F1, rfl, rfl, h1⟩⟩, fun k hk => hL k (by
        rcases List.mem_cons.1 hk with rfl | hk
        · exact List.mem_cons_self ..
        · exact List.mem_cons_of_mem _ (List.mem_append_left _ hk))⟩
end Sk

namespace Sk
open Go Go.Proofs Go.RowKit
set_option maxHeartbeats 1600000
set_option maxRecDepth 100000
set_option linter.unusedVariables false
set_option linter.unusedSimpArgs false
theorem Rvb.openS {L : Nat} {w : World} {v : Value} {s : Setup} (h : Rvb L w v s) : ∃ a0 c0 a1 c1 a2 c2, v = .agg #[.slice a0 s.Parts.length c0, .slice a1 s.Channels.length c1, .slice a2 s.Slots.length c2] ∧ s.Parts.length ≤ 9223372036854775807 ∧ s.Channels.length ≤ 9223372036854775807 ∧ s.Slots.length ≤ 9223372036854775807 := by
  obtain ⟨cs, F, rfl, ⟨v0, v1, v2, F0, F1, F2, rfl, h0, h1, h2, rfl⟩, _⟩ := h
  obtain ⟨a0, c0, rfl, g0⟩ := (show Rs w v0 s.Parts from ⟨_, h0⟩).form
  obtain ⟨a1, c1, rfl, g1⟩ := (show Rs w v1 s.Channels from ⟨_, h1⟩).form
  obtain ⟨a2, c2, rfl, g2⟩ := (show Rs w v2 s.Slots from ⟨_, h2⟩).form
  exact ⟨_, _, _, _, _, _, rfl, g0, g1, g2⟩
theorem Rvb.ext {α : Type} [GT α] {L : Nat} {w w' : World} {v : Value} {x : α} (h : Rvb L w v x) (k : Ext w w') : Rvb L w' v x := by
  obtain ⟨cs, F, h1, h2, h3⟩ := h
  exact ⟨cs, F, h1, GT.ext h2 k, h3⟩
theorem Rvb.set {α : Type} [GT α] {L : Nat} {w : World} {v : Value} {x : α} (h : Rvb L w v x) {p : Addr} (hp : p.block < L) (u : Value) : Rvb L (w.setCell p u) v x := by
  obtain ⟨cs, F, h1, h2, h3⟩ := h
  exact ⟨cs, F, h1, GT.keep h2 (fun k hk => heap_set_ne (by have := h3 k hk; omega)), h3⟩
theorem Rvb.mw {α : Type} [GT α] {L : Nat} {w w' : World} {v : Value} {x : α} {F : List Nat} (h : Rvb L w v x) (k : Mw F w w') (hF : ∀ y ∈ F, y < L) : Rvb L w' v x := by
  obtain ⟨cs, G, h1, h2, h3⟩ := h
  exact ⟨cs, G, h1, k.enc h2 (fun y hy hf => by have := h3 y hy; have := hF y hf; omega), h3⟩
theorem Rvb.mono {α : Type} [GT α] {L L' : Nat} {w : World} {v : Value} {x : α} (h : Rvb L w v x) (k : L' ≤ L) : Rvb L' w v x := by
  obtain ⟨cs, F, h1, h2, h3⟩ := h
  exact ⟨cs, F, h1, h2, fun y hy => Nat.le_trans k (h3 y hy)⟩
end Sk

namespace Sk
open Go Go.Proofs Go.RowKit
set_option maxHeartbeats 1600000
set_option maxRecDepth 100000
set_option linter.unusedVariables false
set_option linter.unusedSimpArgs false
/-- A fold of steps that each leave things as they are or let a measure grow. -/
theorem upto_grow {β : Type} {f : β → Nat → β} {m : β → Nat} (h : ∀ x k, f x k = x ∨ m x < m (f x k)) (x : β) : ∀ k, (M.upto f x k = x ∧ ∀ j, j < k → f x j = x) ∨ m x < m (M.upto f x k)
  | 0 => .inl ⟨rfl, fun j hj => absurd hj (Nat.not_lt_zero j)⟩
  | k + 1 => by
    show (f (M.upto f x k) k = x ∧ _) ∨ m x < m (f (M.upto f x k) k)
    rcases upto_grow h x k with ⟨h1, h2⟩ | h1
    · rw [h1]
      rcases h x k with h3 | h3
      · refine .inl ⟨h3, fun j hj => ?_⟩
        by_cases hjk : j = k
        · subst hjk; exact h3
        · exact h2 j (by omega)
      · exact .inr h3
    · rcases h (M.upto f x k) k with h3 | h3
      · rw [h3]; exact .inr h1
      · exact .inr (Nat.lt_trans h1 h3)
theorem upto_fix {β : Type} {f : β → Nat → β} {m : β → Nat} (g : β → β) (hg : ∀ x k, f x k = g x) (h : ∀ x, g x = x ∨ m x < m (g x)) (x : β) : ∀ k, g (M.upto f x k) = M.upto f x k ∨ m x + k ≤ m (M.upto f x k)
  | 0 => .inr (Nat.le_refl _)
  | k + 1 => by
    show g (f (M.upto f x k) k) = f (M.upto f x k) k ∨ m x + (k + 1) ≤ m (f (M.upto f x k) k)
    rw [hg]
    rcases upto_fix g hg h x k with h1 | h1
    · rw [h1]; exact .inl h1
    · rcases h (M.upto f x k) with h2 | h2
      · rw [h2]; exact .inl h2
      · exact .inr (by omega)
theorem M.fstep_grow (cs : List Channel) (a : Nat) (out : List Bool) (b : Nat) : M.fstep cs a out b = out ∨ out.count true < (M.fstep cs a out b).count true := by
  by_cases ha : a < out.length
  · have hget : out.getD a false = out[a] := by rw [List.getD_eq_getElem?_getD, List.getElem?_eq_getElem ha]; rfl
    cases hx : out.getD a false
    · cases hy : (out.getD b false && M.dir cs a b)
      · left
        unfold M.fstep
        rw [hx, hy]
        show out.set a false = out
        rw [← hx, hget]; exact List.set_getElem_self ha
      · right
        unfold M.fstep
        rw [hx, hy]
        show out.count true < (out.set a true).count true
        rw [List.count_set ha, ← hget, hx]
        simp
    · left
      unfold M.fstep
      rw [hx]
      show out.set a true = out
      rw [← hx, hget]; exact List.set_getElem_self ha
  · left
    unfold M.fstep
    exact List.set_eq_of_length_le (by omega)
theorem M.frow_grow (cs : List Channel) (n : Nat) (out : List Bool) (a : Nat) : M.frow cs n out a = out ∨ out.count true < (M.frow cs n out a).count true := by
  rcases upto_grow (m := fun o : List Bool => o.count true) (M.fstep_grow cs a) out n with h | h
  · exact .inl h.1
  · exact .inr h
theorem M.fround_grow (cs : List Channel) (n : Nat) (out : List Bool) (k : Nat) : M.fround cs n out k = out ∨ out.count true < (M.fround cs n out k).count true := by
  rcases upto_grow (m := fun o : List Bool => o.count true) (M.frow_grow cs n) out n with h | h
  · exact .inl h.1
  · exact .inr h
theorem getD_set_self {l : List Bool} {i : Nat} (h : i < l.length) (y : Bool) : (l.set i y).getD i false = y := by
  rw [List.getD_eq_getElem?_getD, List.getElem?_set_self h]; rfl
theorem getD_set_ne {l : List Bool} {i j : Nat} (h : i ≠ j) (y : Bool) : (l.set i y).getD j false = l.getD j false := by
  rw [List.getD_eq_getElem?_getD, List.getElem?_set_ne h, List.getD_eq_getElem?_getD]
theorem getD_lt {l : List Bool} {i : Nat} (h : l.getD i false = true) : i < l.length := by
  by_cases hi : i < l.length
  · exact hi
  · rw [List.getD_eq_getElem?_getD, List.getElem?_eq_none (by omega)] at h; cases h
/-- What has no influence from outside stays as it is. -/
theorem M.flows_inv (cs : List Channel) (n k : Nat) (P : List Bool → Prop) (h0 : P ((List.replicate n false).set k true)) (hs : ∀ out a b, P out → P (M.fstep cs a out b)) : P (M.flows cs n k) :=
  M.upto_inv P h0 (fun x _ h => M.upto_inv P h (fun y a h' => M.upto_inv P h' (fun z b h'' => hs z a b h'') n) n) n
theorem M.flows_self (cs : List Channel) {n k : Nat} (hk : k < n) : (M.flows cs n k).getD k false = true := by
  refine M.flows_inv cs n k (fun o => o.getD k false = true) (getD_set_self (by simpa using hk) true) fun out a b h => ?_
  unfold M.fstep
  by_cases hak : a = k
  · subst hak
    rw [getD_set_self (getD_lt h), h]; rfl
  · rw [getD_set_ne hak]; exact h
theorem M.flows_least (cs : List Channel) {n k : Nat} (S : Nat → Prop) (hk : S k) (hS : ∀ a b, a < n → b < n → S b → M.dir cs a b = true → S a) : ∀ i, (M.flows cs n k).getD i false = true → S i := by
  refine (M.flows_inv cs n k (fun o => o.length = n ∧ ∀ i, o.getD i false = true → S i) ⟨by simp, fun i hi => ?_⟩ fun out a b h => ?_).2
  · by_cases hik : k = i
    · subst hik; exact hk
    · rw [getD_set_ne hik] at hi
      have := getD_lt hi
      rw [List.getD_eq_getElem?_getD] at hi
      simp at this
      simp [this] at hi
  · refine ⟨by unfold M.fstep; simpa using h.1, fun i hi => ?_⟩
    unfold M.fstep at hi
    by_cases hai : a = i
    · subst hai
      have ha := getD_lt hi
      rw [List.length_set] at ha
      rw [getD_set_self ha] at hi
      rcases Bool.or_eq_true_iff.1 hi with h1 | h1
      · exact h.2 _ h1
      · obtain ⟨h2, h3⟩ := Bool.and_eq_true_iff.1 h1
        have hb := getD_lt h2
        exact hS a b (by omega) (by omega) (h.2 _ h2) h3
    · rw [getD_set_ne hai] at hi; exact h.2 _ hi
theorem count_one (n k : Nat) (hk : k < n) : ((List.replicate n false).set k true).count true = 1 := by
  rw [List.count_set (by simpa using hk)]
  simp [List.count_replicate]
theorem M.flows_closed (cs : List Channel) {n k : Nat} (hk : k < n) {a b : Nat} (ha : a < n) (hb : b < n) (h : (M.flows cs n k).getD b false = true) (hd : M.dir cs a b = true) : (M.flows cs n k).getD a false = true := by
  have hl := M.flows_len cs n k
  have hfix : M.fround cs n (M.flows cs n k) 0 = M.flows cs n k := by
    rcases upto_fix (m := fun o : List Bool => o.count true) (fun o => M.fround cs n o 0) (fun _ _ => rfl) (fun o => M.fround_grow cs n o 0) ((List.replicate n false).set k true) n with h1 | h1
    · exact h1
    · have h2 : (M.flows cs n k).count true ≤ n := Nat.le_trans List.count_le_length (Nat.le_of_eq hl)
      have h3 : ((List.replicate n false).set k true).count true + n ≤ (M.flows cs n k).count true := h1
      rw [count_one n k hk] at h3
      omega
  generalize M.flows cs n k = F at *
  rcases upto_grow (m := fun o : List Bool => o.count true) (M.frow_grow cs n) F n with h1 | h1
  · have h2 := h1.2 a ha
    rcases upto_grow (m := fun o : List Bool => o.count true) (M.fstep_grow cs a) F n with h3 | h3
    · have h4 := h3.2 b hb
      unfold M.fstep at h4
      rw [h, hd] at h4
      simp only [Bool.and_self, Bool.or_true] at h4
      rw [← h4]; exact getD_set_self (by omega) true
    · exfalso
      have : M.upto (M.fstep cs a) F n = F := h2
      rw [this] at h3
      exact Nat.lt_irrefl _ h3
  · exfalso
    have : M.upto (M.frow cs n) F n = F := hfix
    rw [this] at h1
    exact Nat.lt_irrefl _ h1
theorem M.flows_trans (cs : List Channel) {n a b c : Nat} (hc : c < n) (h1 : (M.flows cs n b).getD a false = true) (h2 : (M.flows cs n c).getD b false = true) : (M.flows cs n c).getD a false = true :=
  M.flows_least cs (fun i => (M.flows cs n c).getD i false = true) h2 (fun i j hi hj hS hd => M.flows_closed cs hc hi hj hS hd) a h1
theorem M.least_at2 (cs : List Channel) {n a b : Nat} (ha : a < n) (hb : b < n) : M.at2 (M.least cs n) a b = (M.flows cs n b).getD a false := by
  refine M.at2_of (r := (List.range n).map fun c => (M.flows cs n c).getD a false) ?_ ?_
  · simp [M.least, ha]
  · simp [hb]
theorem M.least_trans (cs : List Channel) {n a b c : Nat} (ha : a < n) (hb : b < n) (hc : c < n) (h1 : M.at2 (M.least cs n) a b = true) (h2 : M.at2 (M.least cs n) b c = true) : M.at2 (M.least cs n) a c = true := by
  rw [M.least_at2 cs ha hb] at h1
  rw [M.least_at2 cs hb hc] at h2
  rw [M.least_at2 cs ha hc]
  exact M.flows_trans cs hc h1 h2
theorem M.least_pv (cs : List Channel) {n : Nat} (hn : n ≤ 5) : M.pv (M.least cs n) n = true := by
  refine Bo.t ⟨by rw [M.least_len], by omega, by omega, fun j r hj => ?_⟩
  refine ⟨by rw [M.least_row hj], ?_⟩
  have hjn := (List.getElem?_eq_some_iff.1 hj).1
  rw [M.least_len] at hjn
  have : r = (List.range n).map fun c => (M.flows cs n c).getD j false := by
    have h := hj
    simp [M.least, hjn] at h
    exact h.symm
  subst this
  have := M.flows_self cs hjn
  simp [hjn]
  simpa using this
theorem fm_nil {α β : Type} {f : α → List β} {xs : List α} (h : ∀ x ∈ xs, f x = []) : xs.flatMap f = [] := by
  induction xs with
  | nil => rfl
  | cons x xs ih =>
    rw [List.flatMap_cons, h x (List.mem_cons_self ..), ih fun y hy => h y (List.mem_cons_of_mem _ hy)]; rfl
theorem fm_range {β : Type} {f : Nat → List β} {n a : Nat} (ha : a < n) (h : ∀ i, i ≠ a → f i = []) : (List.range n).flatMap f = f a := by
  have h1 : (List.range n) = (List.range a) ++ ([a] ++ (List.range (n - a - 1)).map (fun x => a + 1 + x)) := by
    have h2 : n = a + (1 + (n - a - 1)) := by omega
    refine List.ext_getElem (by simp; omega) fun i h3 h4 => ?_
    simp only [List.getElem_range, List.getElem_append, List.length_range, List.length_singleton, List.getElem_map, List.getElem_singleton]
    split
    · rfl
    · split
      · omega
      · omega
  rw [h1, List.flatMap_append, List.flatMap_append, fm_nil (fun x hx => h x (by have := List.mem_range.1 hx; omega)), fm_nil (xs := (List.range (n - a - 1)).map (fun x => a + 1 + x)) (fun x hx => h x (by
    obtain ⟨y, _, rfl⟩ := List.mem_map.1 hx; omega))]
  simp
theorem M.gaps_self (l : List (List Bool)) (n : Nat) : M.gaps l l n = [] :=
  fm_nil fun a _ => fm_nil fun b _ => by
    cases h : M.at2 l a b
    · exact M.gcell_f (.inl h)
    · exact M.gcell_f (.inr h)
/-- One influence less: one gap. -/
def M.less (l : List (List Bool)) (a b : Nat) : List (List Bool) := l.set a ((l.getD a []).set b false)
theorem M.less_at {l : List (List Bool)} {a b : Nat} (ha : a < l.length) (hb : b < (l.getD a []).length) (i j : Nat) : M.at2 (M.less l a b) i j = (if i = a ∧ j = b then false else M.at2 l i j) := by
  unfold M.at2 M.less
  rw [List.getD_eq_getElem?_getD (l := l.set _ _), List.getElem?_set]
  by_cases hi : a = i
  · subst hi
    simp only [if_true, ha, Option.getD_some]
    by_cases hj : b = j
    · subst hj
      rw [getD_set_self hb]; simp
    · rw [getD_set_ne hj]
      rw [if_neg (by omega)]
  · rw [if_neg hi, if_neg (by omega), List.getD_eq_getElem?_getD (l := l)]
theorem M.gaps_less {l : List (List Bool)} {n a b : Nat} (hl : l.length = n) (ha : a < n) (hb : b < n) (hr : (l.getD a []).length = n) (h : M.at2 l a b = true) : M.gaps l (M.less l a b) n = [10 * (a : Int) + b] := by
  have hat := M.less_at (l := l) (a := a) (b := b) (by omega) (by omega)
  have hcell : ∀ i j, (i ≠ a ∨ j ≠ b) → M.gcell l (M.less l a b) i j = [] := fun i j hij => by
    cases h1 : M.at2 l i j
    · exact M.gcell_f (.inl h1)
    · refine M.gcell_f (.inr ?_)
      rw [hat, if_neg (by omega), h1]
  refine (fm_range (f := M.grow l (M.less l a b) n) ha fun i hi => fm_nil fun j _ => hcell i j (.inl hi)).trans ?_
  refine (fm_range (f := M.gcell l (M.less l a b) a) hb fun j hj => hcell a j (.inr hj)).trans ?_
  exact M.gcell_t h (by rw [hat, if_pos ⟨rfl, rfl⟩])
theorem M.less_pv {l : List (List Bool)} {n a b : Nat} (h : M.pv l n = true) (hab : a ≠ b) : M.pv (M.less l a b) n = true := by
  obtain ⟨h1, h2, h3, h4⟩ := Bo.iff.1 h
  refine Bo.t ⟨by unfold M.less; simpa using h1, h2, h3, fun j r hj => ?_⟩
  unfold M.less at hj
  rw [List.getElem?_set] at hj
  split at hj
  · rename_i hja
    subst hja
    split at hj
    · rename_i hal
      cases hj
      obtain ⟨r0, hr0⟩ : ∃ r0, l[a]? = some r0 := ⟨_, List.getElem?_eq_getElem hal⟩
      obtain ⟨h5, h6⟩ := h4 a r0 hr0
      have h7 : l.getD a [] = r0 := by rw [List.getD_eq_getElem?_getD, hr0]; rfl
      rw [h7, List.length_set, List.getElem?_set_ne (by omega)]
      exact ⟨h5, h6⟩
    · cases hj
  · exact h4 j r hj
end Sk

namespace Sk
open Go Go.Proofs Go.RowKit
set_option maxHeartbeats 1600000
set_option maxRecDepth 100000
set_option linter.unusedVariables false
set_option linter.unusedSimpArgs false
theorem M.gcell_mem {l q : List (List Bool)} {a b : Nat} {z : Int} (h : z ∈ M.gcell l q a b) : z = 10 * (a : Int) + b ∧ M.at2 l a b = true ∧ M.at2 q a b = false := by
  unfold M.gcell at h
  split at h
  · rename_i hc
    rw [List.mem_singleton] at h
    simp only [Bool.and_eq_true, Bool.not_eq_true'] at hc
    exact ⟨h, hc⟩
  · cases h
theorem M.grow_mem {l q : List (List Bool)} {n a : Nat} {z : Int} (h : z ∈ M.grow l q n a) : ∃ b, b < n ∧ z = 10 * (a : Int) + b ∧ M.at2 l a b = true ∧ M.at2 q a b = false := by
  obtain ⟨b, hb, hz⟩ := List.mem_flatMap.1 h
  exact ⟨b, List.mem_range.1 hb, M.gcell_mem hz⟩
theorem M.gaps_mem {l q : List (List Bool)} {n : Nat} {z : Int} (h : z ∈ M.gaps l q n) : ∃ a b, a < n ∧ b < n ∧ z = 10 * (a : Int) + b ∧ M.at2 l a b = true ∧ M.at2 q a b = false := by
  obtain ⟨a, ha, hz⟩ := List.mem_flatMap.1 h
  obtain ⟨b, hb, h3⟩ := M.grow_mem hz
  exact ⟨a, b, List.mem_range.1 ha, hb, h3⟩
theorem M.gaps_sorted (l q : List (List Bool)) {n : Nat} (hn : n ≤ 10) : (M.gaps l q n).Pairwise (· < ·) := by
  unfold M.gaps
  rw [List.pairwise_flatMap]
  refine ⟨fun a _ => ?_, ?_⟩
  · unfold M.grow
    rw [List.pairwise_flatMap]
    refine ⟨fun b _ => ?_, ?_⟩
    · unfold M.gcell; split <;> simp
    · refine List.Pairwise.imp ?_ List.pairwise_lt_range
      intro b c hbc x hx y hy
      have h1 := (M.gcell_mem hx).1
      have h2 := (M.gcell_mem hy).1
      omega
  · refine List.Pairwise.imp ?_ List.pairwise_lt_range
    intro a c hac x hx y hy
    obtain ⟨b, hb, h1, _⟩ := M.grow_mem hx
    obtain ⟨d, hd, h2, _⟩ := M.grow_mem hy
    omega
theorem M.dir_nil {a b : Nat} (h : M.dir [] a b = true) : a = b := by
  unfold M.dir at h
  simp at h
  omega
theorem M.gaps_nil {q : List (List Bool)} {n : Nat} (h : M.pv q n = true) : M.gaps (M.least [] n) q n = [] := by
  by_cases hg : M.gaps (M.least [] n) q n = []
  · exact hg
  · exfalso
    obtain ⟨z, hz⟩ := List.exists_mem_of_ne_nil _ hg
    obtain ⟨a, b, ha, hb, _, h1, h2⟩ := M.gaps_mem hz
    rw [M.least_at2 [] ha hb] at h1
    have hab : a = b := M.flows_least [] (fun i => i = b) rfl (fun i j _ _ hj hd => (M.dir_nil hd).trans hj) a h1
    subst hab
    obtain ⟨e1, _, _, h4⟩ := Bo.iff.1 h
    obtain ⟨r, hr⟩ : ∃ r, q[a]? = some r := ⟨_, List.getElem?_eq_getElem (by omega)⟩
    have := M.at2_of hr (h4 a r hr).2
    rw [this] at h2; cases h2
theorem M.policyGaps_quiet (s : Setup) (q : List (List Bool)) : M.policyGaps { s with Channels := [] } q = [] := by
  unfold M.policyGaps
  split
  · rename_i h
    exact M.gaps_nil (Bool.and_eq_true_iff.1 h).2
  · rfl
/-- What the law says of the gaps. -/
theorem M.policyGaps_facts {s : Setup} {q : List (List Bool)} {l : List Int} (h : M.policyGaps s q = l) (hl : l ≠ []) :
    M.leastP s = M.least s.Channels s.Parts.length ∧ M.pv q s.Parts.length = true ∧ s.Parts.length ≤ 5 ∧
    (∀ (k : Nat) (z : Int), l[k]? = some z → ∃ a b : Nat, a < s.Parts.length ∧ b < s.Parts.length ∧ z = 10 * (a : Int) + b ∧ M.at2 (M.least s.Channels s.Parts.length) a b = true ∧ M.at2 q a b = false) ∧
    ∀ (k : Nat) (z z' : Int), l[k]? = some z → l[k + 1]? = some z' → z < z' := by
  cases g : M.setv s
  · rw [M.policyGaps_f (.inl g)] at h; exact absurd h.symm hl
  · cases gk : M.pv q s.Parts.length
    · rw [M.policyGaps_f (.inr gk)] at h; exact absurd h.symm hl
    · rw [M.policyGaps_t g gk] at h
      have hp5 := M.setv_parts g
      subst h
      refine ⟨M.leastP_t g, rfl, hp5, fun k z hk => M.gaps_mem (List.mem_of_getElem? hk), fun k z z' h1 h2 => ?_⟩
      have hs := List.pairwise_iff_getElem.1 (M.gaps_sorted (M.least s.Channels s.Parts.length) q (n := s.Parts.length) (by omega))
      obtain ⟨i1, rfl⟩ := List.getElem?_eq_some_iff.1 h1
      obtain ⟨i2, rfl⟩ := List.getElem?_eq_some_iff.1 h2
      exact hs k (k + 1) i1 i2 (by omega)
end Sk

