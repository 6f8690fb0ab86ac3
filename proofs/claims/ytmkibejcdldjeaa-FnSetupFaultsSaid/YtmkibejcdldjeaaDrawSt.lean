/- Contracts of functions of the given program, and lemmas for them: each theorem states the condition under which it holds. -/
import Derived.Test.YtmkibejcdldjeaaChecked
import Derived.Deep.CutBlock
import Derived.Deep.CutRange
import Derived.ChangeArms
import Derived.Test.YtmkibejcdldjeaaDrawPt
import Derived.Test.YtmkibejcdldjeaaDrawCh
import Derived.Test.YtmkibejcdldjeaaParse
import Derived.Test.YtmkibejcdldjeaaAcc
import Derived.Test.YtmkibejcdldjeaaCopy
import Derived.Test.YtmkibejcdldjeaaDrawPol
import Derived.Test.YtmkibejcdldjeaaNums
import Derived.Test.YtmkibejcdldjeaaRead
import Derived.Test.YtmkibejcdldjeaaTypes
namespace Sk
open Go Go.Proofs Go.RowKit
set_option maxHeartbeats 1600000
set_option maxRecDepth 100000
set_option linter.unusedVariables false
set_option linter.unusedSimpArgs false
/-- A slice that one reads through blocks from L on, none of them of G. -/
def Rsx {α : Type} [GT α] (G : List Nat) (L : Nat) (w : World) (v : Value) (xs : List α) : Prop := ∃ F, Sl w v xs F ∧ ∀ k ∈ F, L ≤ k ∧ k ∉ G
theorem Rsx.mw {α : Type} [GT α] {G F : List Nat} {L : Nat} {w w' : World} {v : Value} {xs : List α} (h : Rsx G L w v xs) (k : Mw F w w') (hF : ∀ x ∈ F, x ∈ G) : Rsx G L w' v xs := by
  obtain ⟨K, h1, h2⟩ := h
  exact ⟨K, k.sl h1 (fun y hy hf => (h2 y hy).2 (hF y hf)), h2⟩
theorem Rsb.x {α : Type} [GT α] {G : List Nat} {L L' : Nat} {w : World} {v : Value} {xs : List α} (h : Rsb L w v xs) (hG : ∀ x ∈ G, x < L ∨ w.heap.size ≤ x) (hL : L' ≤ L) : Rsx G L' w v xs := by
  obtain ⟨K, h1, h2⟩ := h
  exact ⟨K, h1, fun k hk => ⟨Nat.le_trans hL (h2 k hk), fun hm => by have := h1.inh k hk; have := h2 k hk; rcases hG k hm with h | h <;> omega⟩⟩
theorem Rsx.ext {α : Type} [GT α] {G : List Nat} {L : Nat} {w w' : World} {v : Value} {xs : List α} (h : Rsx G L w v xs) (k : Ext w w') : Rsx G L w' v xs := h.mw (F := []) (Mw.ofExt k) (by simp)
theorem Rsx.set {α : Type} [GT α] {G : List Nat} {L : Nat} {w : World} {v : Value} {xs : List α} (h : Rsx G L w v xs) {p : Addr} (hp : p.block ∈ G) (u : Value) : Rsx G L (w.setCell p u) v xs :=
  h.mw (F := [p.block]) (Mw.ofMo ((Mo.refl _ _).set (by simp) u)) (by simpa using hp)
theorem M.drawn_tot {s : Setup} (h5 : s.Parts.length ≤ 6) (hw : ∀ x ∈ s.Parts, x.Windows.length ≤ 20) (h8 : s.Channels.length ≤ 9) (h12 : s.Slots.length ≤ 13) : GT.tot s ≤ 1000 := by
  have hp := tot_list 30 6 s.Parts h5 (fun x hx => by
    have := tot_list 0 20 x.Windows (hw x hx) (fun y _ => Nat.le_refl _)
    show GT.tot x.Windows + GT.tot x.Cells ≤ _
    have h0 : GT.tot x.Cells = 0 := rfl
    omega)
  have hc := tot_list 0 9 s.Channels h8 (fun y _ => Nat.le_refl _)
  have hs := tot_list 0 13 s.Slots h12 (fun y _ => Nat.le_refl _)
  show GT.tot s.Parts + GT.tot s.Channels + GT.tot s.Slots ≤ _
  omega
/-- What is known of a setup that was drawn. -/
def M.drawn (s : Setup) : Prop := s.Parts.length ≤ 6 ∧ (∀ x ∈ s.Parts, x.Windows.length ≤ 20) ∧ s.Channels.length ≤ 9 ∧ s.Slots.length ≤ 13
theorem M.drawn.tot {s : Setup} (h : M.drawn s) : GT.tot s ≤ 1000 := M.drawn_tot h.1 h.2.1 h.2.2.1 h.2.2.2
theorem spec_l20Setup (W w : World) (b m : Nat) (n : Int) (h : Rd W w b (m + 500)) (hn1 : -1000000 ≤ n) (hn2 : n ≤ 1000000) :
    Calls Try.prog 42 #[.pointer (some ⟨b, 0, none⟩), .int .i64 n] w fun e w' => ∃ v s, e = .returned v ∧ Rvb (α := Setup) w.heap.size w' v s ∧ M.drawn s ∧ Mw [b] w w' ∧ Rd W w' b m := by
  have H := Lib.hid h
  have hbl := h.lt
  have hbW := h.1
  have hWw := h.2.1.sz
  clear h
  go_enter Try.func42, Try.ntmps42
  go_upto_region 1 with (fail)
  refine abs_world (fun W0 => Ext w W0 ∧ Bk W0 w.heap.size [.slice none 0 0, .slice none 0 0, .slice none 0 0] 27) ⟨(Ext.refl _).alloc _, Bk.new _ _ _⟩ ?_
  rintro W0 ⟨e0, kA⟩
  have HRD := Lib.hid (H.out.ext e0)
  have HMW : Hid (Mw [b] w W0) := Lib.hid (Mw.ofExt e0)
  have hAl := kA.lt
  have KA := Lib.hid kA
  clear e0 H kA
  go_upto_region 2 with (go_at_call 75; refine (spec_l20Parts W _ b (m + 100) _ HRD.out (by omega) (by omega)).mono ?_; rintro e w1 ⟨v0, ps, rfl, hp, ⟨hpl, hpw⟩, hm, hr⟩; obtain ⟨p0, q0, rfl, hq0⟩ := hp.form; have hs1 := hm.size; replace HMW := Lib.hid (HMW.out.tr hm); replace KA := Lib.hid (hm.bk KA.out (by simp; omega)); replace HRD := Lib.hid hr; have HP := Lib.hid hp; have HPW := Lib.hid hpw; clear hm hr hp hpw)
  obtain ⟨B, hB⟩ : ∃ B, B = w1.heap.size := ⟨_, rfl⟩
  have hBA : w.heap.size < B := by omega
  refine abs_world (fun u => Mw [b] w u ∧ Rd W u b (m + 100) ∧ Bk u w.heap.size [.slice none 0 0, .slice none 0 0, .slice none 0 0] 27 ∧ Bk u B [.slice p0 ps.length q0, .slice none 0 0, .slice none 0 0] 27 ∧ Rsx [b, w.heap.size, B] w.heap.size u (.slice p0 ps.length q0) ps)
    ⟨HMW.out.tr (Mw.ofExt ((Ext.refl _).alloc _)), HRD.out.ext ((Ext.refl _).alloc _), KA.out.ext ((Ext.refl _).alloc _), by rw [hB]; exact Bk.new _ _ _, (HP.out.x (by simp; omega) (by omega)).ext ((Ext.refl _).alloc _)⟩ ?_
  rw [← hB]
  clear HMW HRD KA HP hB
  rintro w2 ⟨mw2, rd2, ka2, kb2, hx2⟩
  have HMW := Lib.hid mw2; have HRD := Lib.hid rd2; have KA := Lib.hid ka2; have KB := Lib.hid kb2; have HX := Lib.hid hx2
  have hBl := kb2.lt
  have c0 := kb2.cell (j := 0) rfl
  clear mw2 rd2 ka2 kb2 hx2
  go_upto_region 3 with (go_at_call 76; refine (spec_l20Channels W _ b (m + 60) _ _ HRD.out (by omega) (by omega) (by omega)).mono ?_; rintro e w3 ⟨v1, cs, rfl, hp, hcl, hm, hr⟩; obtain ⟨p1, q1, rfl, hq1⟩ := hp.form; have hs3 := hm.size; replace HMW := Lib.hid (HMW.out.tr hm); replace KA := Lib.hid (hm.bk KA.out (by simp; omega)); replace KB := Lib.hid (hm.bk KB.out (by simp; omega)); replace HX := Lib.hid (HX.out.mw hm (by simp)); replace HRD := Lib.hid hr; have HC := Lib.hid (hp.x (G := [b, w.heap.size, B]) (L' := w.heap.size) (by simp; omega) (by omega)); have b1 := KB.out.cell (j := 1) rfl; have bf := KB.out.fz 1; clear hm hr hp)
  refine abs_world (fun u => Mw [b] w u ∧ Rd W u b (m + 60) ∧ Bk u w.heap.size [.slice none 0 0, .slice none 0 0, .slice none 0 0] 27 ∧ Bk u B [.slice p0 ps.length q0, .slice p1 cs.length q1, .slice none 0 0] 27 ∧ Rsx [b, w.heap.size, B] w.heap.size u (.slice p0 ps.length q0) ps ∧ Rsx [b, w.heap.size, B] w.heap.size u (.slice p1 cs.length q1) cs ∧ B < u.heap.size)
    ⟨HMW.out.set (.inr (by show _ ≤ B; omega)) _, HRD.out.set (by show b ≠ B; omega) (by show _ ≤ B; omega) _, KA.out.set_ne (by show w.heap.size ≠ B; omega) _, by have := KB.out.set 1 (.slice p1 cs.length q1); simpa using this, HX.out.set (by simp) _, HC.out.set (by simp) _, by simp; omega⟩ ?_
  clear HMW HRD KA KB HX HC b1 bf
  rintro w4 ⟨mw2, rd2, ka2, kb2, hx2, hc2, hBl4⟩
  have HMW := Lib.hid mw2; have HRD := Lib.hid rd2; have KA := Lib.hid ka2; have KB := Lib.hid kb2; have HX := Lib.hid hx2; have HC := Lib.hid hc2
  have c4 := kb2.cell (j := 0) rfl
  clear mw2 rd2 ka2 kb2 hx2 hc2 c0
  go_upto_region 4 with (go_at_call 77; refine (spec_l20Slots W _ b (m + 30) _ _ (HRD.out.le (by omega)) (by omega) (by omega) (by omega)).mono ?_; rintro e w5 ⟨v2, ss, rfl, hp, hsl, hm, hr⟩; obtain ⟨p2, q2, rfl, hq2⟩ := hp.form; have hs5 := hm.size; replace HMW := Lib.hid (HMW.out.tr hm); replace KA := Lib.hid (hm.bk KA.out (by simp; omega)); replace KB := Lib.hid (hm.bk KB.out (by simp; omega)); replace HX := Lib.hid (HX.out.mw hm (by simp)); replace HC := Lib.hid (HC.out.mw hm (by simp)); replace HRD := Lib.hid hr; have HS := Lib.hid (hp.x (G := [b, w.heap.size, B]) (L' := w.heap.size) (by simp; omega) (by omega)); have b2 := KB.out.cell (j := 2) rfl; have bf := KB.out.fz 2; clear hm hr hp)
  refine abs_world (fun u => Mw [b] w u ∧ Rd W u b m ∧ Bk u w.heap.size [.slice none 0 0, .slice none 0 0, .slice none 0 0] 27 ∧ Bk u B [.slice p0 ps.length q0, .slice p1 cs.length q1, .slice p2 ss.length q2] 27 ∧ Rsx [b, w.heap.size, B] w.heap.size u (.slice p0 ps.length q0) ps ∧ Rsx [b, w.heap.size, B] w.heap.size u (.slice p1 cs.length q1) cs ∧ Rsx [b, w.heap.size, B] w.heap.size u (.slice p2 ss.length q2) ss)
    ⟨HMW.out.set (.inr (by show _ ≤ B; omega)) _, (HRD.out.set (by show b ≠ B; omega) (by show _ ≤ B; omega) _).le (by omega), KA.out.set_ne (by show w.heap.size ≠ B; omega) _, by have := KB.out.set 2 (.slice p2 ss.length q2); simpa using this, HX.out.set (by simp) _, HC.out.set (by simp) _, HS.out.set (by simp) _⟩ ?_
  clear HMW HRD KA KB HX HC HS b2 bf c4
  rintro w6 ⟨mw2, rd2, ka2, kb2, hx2, hc2, hs2⟩
  have a0 := ka2.cell (j := 0) rfl
  have a1 := ka2.cell (j := 1) rfl
  have a2 := ka2.cell (j := 2) rfl
  have af := ka2.fz
  have al := ka2.lt
  have b0 := kb2.cell (j := 0) rfl
  have b1 := kb2.cell (j := 1) rfl
  have b2 := kb2.cell (j := 2) rfl
  have bl := kb2.lt
  have HMW := Lib.hid mw2; have HRD := Lib.hid rd2; have HX := Lib.hid hx2; have HC := Lib.hid hc2; have HS := Lib.hid hs2
  clear mw2 rd2 ka2 kb2 hx2 hc2 hs2
  go_wp2
  refine bodyPost_ret (v := .agg #[.slice p0 ps.length q0, .slice p1 cs.length q1, .slice p2 ss.length q2]) (by simp [results, Try.results42, go_sem, a0, a1, a2]) rfl ⟨_, ⟨ps, cs, ss⟩, rfl, ?_, ⟨hpl, HPW.out, hcl, hsl⟩, ?_, ?_⟩
  · obtain ⟨F0, h0, k0⟩ := ((HX.out.set (p := ⟨w.heap.size, 0, none⟩) (by simp) (.slice p0 ps.length q0)).set (p := ⟨w.heap.size, 1, none⟩) (by simp) (.slice p1 cs.length q1)).set (p := ⟨w.heap.size, 2, none⟩) (by simp) (.slice p2 ss.length q2)
    obtain ⟨F1, h1, k1⟩ := ((HC.out.set (p := ⟨w.heap.size, 0, none⟩) (by simp) (.slice p0 ps.length q0)).set (p := ⟨w.heap.size, 1, none⟩) (by simp) (.slice p1 cs.length q1)).set (p := ⟨w.heap.size, 2, none⟩) (by simp) (.slice p2 ss.length q2)
    obtain ⟨F2, h2, k2⟩ := ((HS.out.set (p := ⟨w.heap.size, 0, none⟩) (by simp) (.slice p0 ps.length q0)).set (p := ⟨w.heap.size, 1, none⟩) (by simp) (.slice p1 cs.length q1)).set (p := ⟨w.heap.size, 2, none⟩) (by simp) (.slice p2 ss.length q2)
    exact ⟨[_, _, _], _, rfl, ⟨_, _, _, F0, F1, F2, rfl, h0, h1, h2, rfl⟩, fun k hk => by
      rcases List.mem_append.1 hk with hk | hk
      · exact (k0 k hk).1
      · rcases List.mem_append.1 hk with hk | hk
        · exact (k1 k hk).1
        · exact (k2 k hk).1⟩
  · exact ((HMW.out.set (.inr (Nat.le_refl _)) _).set (.inr (Nat.le_refl _)) _).set (.inr (Nat.le_refl _)) _
  · exact ((HRD.out.set (by show b ≠ w.heap.size; omega) hWw _).set (by show b ≠ w.heap.size; omega) hWw _).set (by show b ≠ w.heap.size; omega) hWw _
end Sk

namespace Sk
open Go Go.Proofs Go.RowKit Go.ChangeShapes Go.WideShapes Go.ChangeAt Go.Deep
set_option maxHeartbeats 1600000
set_option maxRecDepth 100000
set_option linter.unusedVariables false
set_option linter.unusedSimpArgs false
theorem Rdr.byte {P : Program} {t : TypeId} (ht : P.underlying t = some (.int .u8)) (hc : P.cellsOf t = 1) : Rdr P t By :=
  ⟨hc, fun h => by
    obtain ⟨n, rfl, _, hw⟩ := DataW.trod_int ht h
    obtain ⟨h1, h2⟩ := bounds_u8 hw
    exact ⟨⟨n⟩, [], rfl, h1, h2, rfl⟩⟩
theorem rd_uint8S : Rdr Try.prog 22 (List By) := .slice (.byte Try.underlying5 (by kernel_rfl)) Try.underlying22 (by kernel_rfl)
end Sk

