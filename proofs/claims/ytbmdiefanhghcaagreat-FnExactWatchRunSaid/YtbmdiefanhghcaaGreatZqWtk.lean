/- Contracts of functions of the given program, each under the condition that it states. -/
import Derived.Test.YtbmdiefanhghcaaGreatChecked
import Derived.Deep.CutBlock
import Derived.Deep.CutRange
import Derived.Test.YtbmdiefanhghcaaGreatZlWB
import Derived.Test.YtbmdiefanhghcaaGreatTickI
namespace Sk
open Go Go.Proofs Go.RowKit
set_option maxHeartbeats 3000000
set_option maxRecDepth 100000
set_option linter.unusedVariables false
set_option linter.unusedSimpArgs false
noncomputable def M.wtick (x : Watch) (t : List Int) : Watch :=
 if 0 ≤ M.who x.Box.Plan.Slots x.Box.Tick ∧ (x.Box.Cores.getD (M.who x.Box.Plan.Slots x.Box.Tick).toNat M.cz).Stopped = false ∧ ((M.tick x.Box).Cores.getD (M.who x.Box.Plan.Slots x.Box.Tick).toNat M.cz).Stopped = true
 then (M.wfl ⟨M.tick x.Box, x.States⟩ t (M.who x.Box.Plan.Slots x.Box.Tick).toNat 1).1 else ⟨M.tick x.Box, x.States⟩
theorem M.tick_WV {x : Watch} (h : M.WV x) (ht : x.Box.Tick < 100000) : M.WV ⟨M.tick x.Box, x.States⟩ :=
 ⟨M.tick_MV h.box ht, by show x.States.length = (M.tick x.Box).Cores.length; rw [M.tick_cores]; exact h.ns, h.hh⟩
theorem Oh.cellS {L : Nat} {w : World} {v : Value} {xs : List Core} {F : List Nat} (h : Oh L w v xs F) {N : Nat} (hN : N < xs.length) :
  ∃ g, v = .slice (some ⟨g, 0, none⟩) xs.length xs.length ∧ L ≤ g ∧ g < w.heap.size ∧ w.cell? ⟨g, N * 3 + 2, none⟩ = some (.bool (xs.getD N M.cz).Stopped) := by
 rcases h with ⟨_, rfl, _⟩ | ⟨g, rfl, hL, hf, hm, hr, hg⟩
 ·cases hN
 ·have hRs : Rs w (.slice (some ⟨g, 0, none⟩) xs.length xs.length) xs := ⟨g :: F, _, _, rfl, Nat.le_refl _, hm, .inr ⟨fun e => absurd (e ▸ hN : N < ([] : List Core).length) (Nat.not_lt_zero _), g, 0, F, rfl, rfl, hr⟩⟩
  obtain ⟨b, o, x, wa, wc, e, hb, hx, _, _, c2, _⟩ := hRs.atCore N hN
  cases e
  refine ⟨g, rfl, hL, hb, ?_⟩
  rw [List.getD_eq_getElem?_getD, hx.out]
  simpa using c2
theorem impl_wtick (L b : Nat) (x : Watch) (F : List Nat) (vt : Value) (t : List Int) (W0 w : World) (h : Om L w b 0 x F) (ht : Rs W0 vt t) (hE : Ext W0 w) (hWL : W0.heap.size ≤ L) (hL : L ≤ w.heap.size) (hW : M.WV x) (hT : M.ht t = true) (hlt : x.Box.Tick < 100000) :
  Calls Tryz.prog 84 #[.pointer (some ⟨b, 0, none⟩), vt] w fun e w' => (∃ v, e = .returned v) ∧ ∃ F', M.WB L b F w w' (M.wtick x t) F' := by
 have WB0 := zh (M.WB.refl h)
 obtain ⟨_, _, _, _, _, _, _, _, p4, q4, _, _, _, _, -, -, -, -, y4, -, -, -, hen, how⟩ := h.openW
 obtain ⟨v0, v1, v2, v3, v4, v5, v7, G0, G1, G2, G3, G4, G5, G7, e, -, -, -, -, s4, -, -, -, -⟩ := id hen
 simp only [List.cons.injEq] at e
 obtain ⟨_, _, _, _, rfl, _⟩ := e
 have S4 := zh s4
 have hLb := h.bk.2.1
 have hlb := h.bk.1
 have HOW := zh how
 have hc5 : x.Box.Cores.length ≤ 100000000 := by have := hW.box.nc; have := M.setv_parts hW.box.pg.set; omega
 have hwho := hW.box.who x.Box.Tick
 have HT := zh ht
 have HE := zh hE
 have HWT := zh (M.tick_WV hW hlt)
 have HMV := zh hW.box
 have hns := zh hW.ns
 have hdef := zh (show M.wtick x t = _ from rfl)
 have hHF : Hid (∀ k ∈ F, k < w.heap.size ∧ L ≤ k) := zh (fun k hk => ⟨HOW.out.lt hk, (HOW.out.2 k hk).1⟩)
 obtain ⟨ta, tc, rfl, htl⟩ := ht.form
 clear h ht hE hW hen how s4
 have WX : ∀ (w1 : World), Ext w w1 → ∃ Fm, Om L w1 b 0 x.Box Fm ∧ (∀ k ∈ Fm, k < w.heap.size) ∧ ∀ W' m' Fm', M.TB L b Fm w1 W' m' Fm' → ∃ F2, M.WB L b F w W' { x with Box := m' } F2 := fun w1 e => by
  obtain ⟨Fm, h1, h2, h3⟩ := (WB0.out.ext e).box
  exact ⟨Fm, h1, fun k hk => (hHF.out k (h2 k hk).1).1, h3⟩
 go_enter Tryz.func84, Tryz.ntmps84
 go_upto_region 1 with (go_at_call 149; refine (impl_clone_Core _ x.Box.Cores _ _ S4.out hc5).mono ?_; rintro e w1 ⟨v1, F', rfl, oh, _, _, he⟩; have OH := zh oh; have X1 := zh he; clear oh he)
 obtain ⟨Fm, om1, hFm, hback⟩ := WX w1 X1.out
 have OM1 := zh om1
 have HB := zh hback
 have HFM := zh hFm
 have hL1 : L ≤ w1.heap.size := Nat.le_trans hL X1.out.sz
 have hs1 := X1.out.sz
 clear om1 hFm hback WX
 go_upto_region 2 with (go_at_call 127; refine (impl_tick L b x.Box Fm _ OM1.out hL1 HMV.out hlt).mono ?_; rintro e w2 ⟨rfl, F3, tb⟩; obtain ⟨F4, wb⟩ := HB.out _ _ _ tb; have TB2 := zh tb; have WB2 := zh wb; clear tb wb)
 have z4 := (WB2.out.cl 4 (by decide)).trans y4
 have hE2 := WB2.out.ch.ext HE.out (by omega) (fun k hk => by have := (hHF.out k hk).2; omega)
 have HE2 := zh hE2
 have hL2 : L ≤ w2.heap.size := Nat.le_trans hL1 TB2.out.ch.sz
 clear hE2 y4
 rcases hwho with hwn | ⟨N, hwn, hNc⟩
 ·have hm : Hid (M.wtick x t = ⟨M.tick x.Box, x.States⟩) := zh (by unfold M.wtick; rw [hwn]; exact if_neg (fun h => absurd h.1 (by decide)))
  rw [hwn]
  go_wp2
  refine bodyPost_end (v := .tuple #[]) (by simp [results, Tryz.results84, go_sem]) rfl ⟨⟨_, rfl⟩, _, by rw [hm.out]; exact WB2.out⟩
 ·obtain ⟨g, rfl, hgL, hgl, cg⟩ := OH.out.cellS hNc
  have cg2 : w2.cell? ⟨g, N * 3 + 2, none⟩ = some (.bool (x.Box.Cores.getD N M.cz).Stopped) := by
   refine (World.cell?_of_block (TB2.out.ch.keep (k := g) hgl (show g ≠ b by omega) (fun hm => by have := HFM.out g hm; omega))).trans cg
  have hgl2 := Nat.lt_of_lt_of_le hgl TB2.out.ch.sz
  have hNt : N < (M.tick x.Box).Cores.length := by rw [M.tick_cores]; exact hNc
  have hNs : N < x.States.length := by have := hns.out; omega
  obtain ⟨Fm2, om2, _, _⟩ := WB2.out.box
  obtain ⟨g4, s4', _, _, e, _⟩ := (show ∃ g s, ∃ (_ _ : Nat), p4 = some ⟨g, s, none⟩ ∧ True from by
   obtain ⟨_, _, _, ho⟩ := id om2
   obtain ⟨Fc, lc⟩ := om2.lMachineCores
   obtain ⟨g', s', _, _, e, _⟩ := (lc.om ho).idxS (by rw [show 0 + 4 = 4 from rfl]; exact z4) N hNt
   exact ⟨g', s', 0, 0, e, trivial⟩)
  subst e
  obtain ⟨k4, Fy4, hk4, omc, _, _⟩ := (M.TB.refl om2).core z4 hNt
  obtain ⟨_, _, _, _, c42, _, _⟩ := omc.openC
  have lt4 := omc.bk.1
  have hk4' : ((M.tick x.Box).Cores.getD N M.cz).Stopped = k4.Stopped := by rw [List.getD_eq_getElem?_getD, show (M.tick x.Box).Cores[N]? = some k4 from hk4]; rfl
  clear om2 omc hk4 cg OH TB2
  rw [hwn]
  obtain ⟨p, hp⟩ : ∃ p, (x.Box.Cores.getD N M.cz).Stopped = p := ⟨_, rfl⟩
  obtain ⟨q, hq⟩ : ∃ q, k4.Stopped = q := ⟨_, rfl⟩
  rw [hp] at cg2
  rw [hq] at c42 hk4'
  have hlen : Hid ((M.tick x.Box).Cores.length = x.Box.Cores.length) := zh (M.tick_cores _)
  have hm0 : Hid ((0 ≤ M.who x.Box.Plan.Slots x.Box.Tick ∧ (x.Box.Cores.getD (M.who x.Box.Plan.Slots x.Box.Tick).toNat M.cz).Stopped = false ∧ ((M.tick x.Box).Cores.getD (M.who x.Box.Plan.Slots x.Box.Tick).toNat M.cz).Stopped = true) ↔ (p = false ∧ q = true)) := zh (by
   rw [hwn, Int.toNat_natCast, hp, hk4']
   exact ⟨fun h => h.2, fun h => ⟨Int.natCast_nonneg N, h⟩⟩)
  cases p
  ·cases q
   ·have hm : Hid (M.wtick x t = ⟨M.tick x.Box, x.States⟩) := zh (if_neg (fun h => by have := (hm0.out.1 h).2; cases this))
    clear hm0 hwn hp hq hk4'
    go_wp2
    refine bodyPost_end (v := .tuple #[]) (by simp [results, Tryz.results84, go_sem]) rfl ⟨⟨_, rfl⟩, _, by rw [hm.out]; exact WB2.out⟩
   ·have hm : Hid (M.wtick x t = (M.wfl ⟨M.tick x.Box, x.States⟩ t N 1).1) := zh ((if_pos (hm0.out.2 ⟨rfl, rfl⟩)).trans (by rw [hwn, Int.toNat_natCast]))
    clear hm0 hwn hp hq hk4'
    go_wp2_with (go_at_call 150; refine (impl_fault L b N ⟨M.tick x.Box, x.States⟩ F4 _ t 1 _ WB2.out.om (HT.out.ext HE2.out) hL2 HWT.out hT hNs ⟨by decide, by decide⟩).mono ?_; rintro e w5 ⟨rfl, F5, wb5⟩; have WB5 := zh (WB2.out.trans wb5); clear wb5)
    refine bodyPost_end (v := .tuple #[]) (by simp [results, Tryz.results84, go_sem]) rfl ⟨⟨_, rfl⟩, _, by rw [hm.out]; exact WB5.out⟩
  ·have hm : Hid (M.wtick x t = ⟨M.tick x.Box, x.States⟩) := zh (if_neg (fun h => by have := (hm0.out.1 h).1; cases this))
   clear hm0 hwn hp hq hk4'
   go_wp2
   refine bodyPost_end (v := .tuple #[]) (by simp [results, Tryz.results84, go_sem]) rfl ⟨⟨_, rfl⟩, _, by rw [hm.out]; exact WB2.out⟩
end Sk
