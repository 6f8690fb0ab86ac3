/- Contracts of functions of the given program, and lemmas for them: each theorem states the condition under which it holds. -/
import Derived.Test.YtlejdkiihpeojaaGreatChecked
import Derived.Deep.CutBlock
import Derived.Deep.CutRange
import Derived.Test.YtlejdkiihpeojaaGreatNewT
import Derived.Test.YtlejdkiihpeojaaGreatQt
import Derived.Test.YtlejdkiihpeojaaGreatOwnT
namespace Sk
open Go Go.Proofs Go.RowKit
set_option maxHeartbeats 4000000
set_option maxRecDepth 100000
set_option linter.unusedVariables false
set_option linter.unusedSimpArgs false
/-- Behind the switch of an instruction. -/
def M.SB (T : TypeId) (L g s : Nat) (F : List Nat) (B : Nat) (W wc : World) (o : Order) (r : Core) (v : Value) : Prop :=
 ∃ (c1 : Core) (n1 : Int) (F1 : List Nat), v = .int .i64 n1 ∧ rng n1 ∧ r = { c1 with At := n1 } ∧ Om L wc g s c1 F1 ∧ Chg g s 3 F W wc ∧ (∀ k ∈ F1, k ∈ F) ∧ Bk wc B [.int .i64 0, .int .i64 0, .int .i64 0] T ∧ Bk wc (B + 1) [.int .i64 o.Op, .int .i64 o.A, .int .i64 o.B] T
theorem M.SB.of {T : TypeId} {L g s : Nat} {F : List Nat} {B : Nat} {W wc : World} {o : Order} {r c1 : Core} {n1 : Int} {F1 : List Nat} {p : Addr} {u : Value} (hn : rng n1) (hr : r = { c1 with At := n1 }) (h : Om L (W.setCell p u) g s c1 F1 ∧ (∀ k ∈ F1, k ∈ F) ∧ Chg g s 3 F W (W.setCell p u)) (hq : Qt (W.setCell p u) wc) (hg : g < W.heap.size) (hpb : p.block < B) (hA : Bk W B [.int .i64 0, .int .i64 0, .int .i64 0] T) (hB : Bk W (B + 1) [.int .i64 o.Op, .int .i64 o.A, .int .i64 o.B] T) :
  M.SB T L g s F B W wc o r (.int .i64 n1) := by
 obtain ⟨h1, h2, h3⟩ := h
 exact ⟨c1, n1, F1, rfl, hn, hr, h1.ext hq.ext, h3.tr (Chg.ofExt hq.ext (by simpa using hg)), h2, (hA.set_ne (by omega) _).ext hq.ext, (hB.set_ne (by omega) _).ext hq.ext⟩
theorem Om.setX {α : Type} [GT α] {L : Nat} {w : World} {b o : Nat} {x : α} {F : List Nat} (h : Om L w b o x F) {p : Addr} (hb : b ≠ p.block) (hF : p.block ∉ F) (u : Value) : Om L (w.setCell p u) b o x F := by
 obtain ⟨cs, h1, h2, h3⟩ := h
 exact ⟨cs, GT.keep h1 (fun k hk => heap_set_ne (fun e => hF (e ▸ hk))), h2.keep (heap_set_ne hb), h3.set _ _⟩
/-- A block that was not there is turned. -/
theorem Chg.setNew {b o n : Nat} {F : List Nat} {a c : World} (h : Chg b o n F a c) {p : Addr} (hp : a.heap.size ≤ p.block) (hb : b < a.heap.size) (u : Value) : Chg b o n F a (c.setCell p u) := by
 refine ⟨?_, by simpa using h.2.1, fun x hx h1 h2 => by rw [heap_set_ne (by omega)]; exact h.2.2.1 x hx h1 h2, fun i hi => ?_, fun x hx => (h.2.2.2.2 x hx).set _ u⟩
 ·obtain ⟨h1, h2, h3, h4, h5⟩ := h.1
  exact ⟨h1, h2, h3, h4, h5⟩
 ·rw [World.cell?_of_block (w := c) (heap_set_ne (by show b ≠ p.block; omega))]; exact h.2.2.2.1 i hi
theorem M.SB.same {T : TypeId} {L g s : Nat} {F : List Nat} {B : Nat} {W w2 : World} {o : Order} {r c1 : Core} {n1 : Int} (hn : rng n1) (hr : r = { c1 with At := n1 }) (h : Om L W g s c1 F) (hq : Qt W w2) (hg : g < W.heap.size) (hA : Bk W B [.int .i64 0, .int .i64 0, .int .i64 0] T) (hB : Bk W (B + 1) [.int .i64 o.Op, .int .i64 o.A, .int .i64 o.B] T) :
  M.SB T L g s F B W w2 o r (.int .i64 n1) :=
 ⟨c1, n1, F, rfl, hn, hr, h.ext hq.ext, Chg.ofExt hq.ext hg, fun k hk => hk, hA.ext hq.ext, hB.ext hq.ext⟩
theorem impl_Core_step (L g s : Nat) (c : Core) (p : List Order) (q t : Int) (F : List Nat) (vl : Value) (w : World) (h : Om L w g s c F) (hl : Rs w vl p) (hf : M.fits c p.length q = true) (hp : M.prv p q = true) (ht0 : 0 ≤ t) (ht : t ≤ 1000000) :
  Calls Tryz.prog 105 #[.pointer (some ⟨g, s, none⟩), vl, .int .i64 t] w fun e w' => e = .returned (.agg #[.int .i64 (M.step c p t).2.Op, .int .i64 (M.step c p t).2.A, .int .i64 (M.step c p t).2.B]) ∧ ∃ F', Om L w' g s (M.step c p t).1 F' ∧ Chg g s 3 F w w' ∧ ∀ k ∈ F', k ∈ F := by
 obtain ⟨f1, f2, f3⟩ := M.fits_iff.1 hf
 obtain ⟨b1, b2⟩ := M.prv_bd hp
 obtain ⟨A, hA⟩ : ∃ A : Nat, c.At = A := ⟨c.At.toNat, by omega⟩
 have hAl : A < p.length := by omega
 obtain ⟨o, ho, hov⟩ := M.prv_at hp hAl
 obtain ⟨al, cl, rfl, hll⟩ := hl.form
 obtain ⟨ob, oo, o', rfl, hob, ho', q0, q1, q2, r0, r1, r2⟩ := hl.atOrder A hAl
 obtain rfl : o' = o := Option.some.inj (ho'.out.symm.trans ho)
 clear ho'
 obtain ⟨a0, c0, x0, x1, x2, hc, hrA⟩ := h.openC
 obtain ⟨ltg, hLg, ngF, gfz⟩ := h.bk
 have HO := Lib.hid h
 clear hl
 rw [hA] at x1
 go_enter Tryz.func105, Tryz.ntmps105
 cases hst : c.Stopped
 ·rw [hst] at x2
  obtain ⟨nx, hnx⟩ : ∃ nx : Nat, (A + 1) % p.length = nx := ⟨_, rfl⟩
  have hnl : nx < p.length := by rw [← hnx]; exact Nat.mod_lt _ (by omega)
  have hE : Hid (M.step c p t = (M.stepO c p.length t o', o')) := Lib.hid (by
   unfold M.step
   rw [if_neg (by rw [hst]; decide), hA, Int.toNat_natCast, List.getD_eq_getElem?_getD, ho]; rfl)
  have hAt : Hid ((c.At.toNat + 1) % p.length = nx) := Lib.hid (by rw [hA, Int.toNat_natCast]; exact hnx)
  have hm : ((A : Int) + 1).tmod (p.length : Int) = (nx : Int) := by rw [← hnx]; exact Int.ofNat_tmod _ _
  have hne : (p.length : Int) ≠ 0 := by omega
  have HST := Lib.hid hst
  have HCA := Lib.hid hA
  clear hst hnx ho hA
  go_upto_region 4 with (fail)
  refine abs_world (fun W => Ext w W ∧ Bk W w.heap.size [.int .i64 0, .int .i64 0, .int .i64 0] 68 ∧ Bk W (w.heap.size + 1) [.int .i64 o'.Op, .int .i64 o'.A, .int .i64 o'.B] 68) ⟨((Ext.refl _).alloc _).alloc _, (Bk.new _ _ _).ext ((Ext.refl _).alloc _), Bk.new1 _ _ _ _⟩ ?_
  rintro W ⟨e1, kA, kB⟩
  have y0 := (cell_ext e1 ltg).trans x0
  have y1 := (cell_ext e1 ltg).trans x1
  have y2 := (cell_ext e1 ltg).trans x2
  have af := kA.fz
  have a0 := kA.cell (j := 0) rfl
  have a1 := kA.cell (j := 1) rfl
  have a2 := kA.cell (j := 2) rfl
  have b0 := kB.cell (j := 0) rfl
  have b1 := kB.cell (j := 1) rfl
  have b2 := kB.cell (j := 2) rfl
  have E1 := Lib.hid e1
  have KA := Lib.hid kA
  have KB := Lib.hid kB
  have HO1 := Lib.hid (HO.out.ext e1)
  have HC1 := Lib.hid (hc.ext e1)
  clear e1 x0 x1 x2 q0 q1 q2 hc kA kB h
  have hFl : ∀ k ∈ F, k < w.heap.size := fun k hk => by obtain ⟨_, _, _, ho⟩ := id HO.out; exact ho.lt (List.mem_cons_of_mem _ hk)
  have ltgW := Nat.lt_of_lt_of_le ltg E1.out.sz
  obtain ⟨rOp, rA, rB, _⟩ : rng o'.Op ∧ rng o'.A ∧ rng o'.B ∧ True := ⟨r0, r1, r2.1, trivial⟩
  obtain ⟨op, oa, obb⟩ := o'
  simp only at *
  have hcs := M.ov_cases hov
  simp only at hcs
  have rn : rng (nx : Int) := ⟨by omega, by omega⟩
  clear r0 r1 r2 hov
  go_upto_block 0 with (fail)
  go_cut [8] from 9 (fun v8 wc => M.SB 68 L g s F w.heap.size W wc ⟨op, oa, obb⟩ (M.stepO c p.length t ⟨op, oa, obb⟩) v8)
  case first =>
   rcases hcs with ⟨rfl, hc1, hc2⟩ | ⟨rfl, hc1, hc2⟩ | ⟨rfl, hc1, hc2⟩ | ⟨rfl, hc1, hc2⟩ | ⟨rfl, hc1, hc2⟩ | ⟨rfl, hc1, hc2⟩ | ⟨rfl, hc1, hc2⟩ | ⟨rfl | rfl, rfl, rfl⟩
   ·obtain ⟨ia, rfl⟩ : ∃ ia : Nat, oa = ia := ⟨oa.toNat, by omega⟩
    have hia : ia < c.Cells.length := by omega
    obtain ⟨g2, s2, rfl, hg2, hg2F, ltg2, z0, gf2, rg2, hput⟩ := HO1.out.cellC y0 ia hia
    have hb2 := hFl g2 hg2F
    go_upto_region 7 with (fail)
    refine wp_region_quiet_tail 8 (by kernel_rfl) (by kernel_rfl) ?_
    simp only [List.take_succ_cons, List.take_zero, List.drop_succ_cons, List.drop_zero]
    repeat (go_big_quiet_step (fail))
    refine wpQuiet_nil ?_
    go_wp2
    go_meet
    obtain ⟨F1, h⟩ := hput obb rB
    exact M.SB.of rn (by show _ = (⟨_, _, c.Stopped⟩ : Core); rw [HST.out, ← hAt.out]; rfl) h (Qt.mk 1) ltgW (by show g2 < _; exact hb2) KA.out KB.out
   ·obtain ⟨ia, rfl⟩ : ∃ ia : Nat, oa = ia := ⟨oa.toNat, by omega⟩
    have hia : ia < c.Cells.length := by omega
    obtain ⟨g2, s2, rfl, hg2, hg2F, ltg2, z0, gf2, rg2, hput⟩ := HO1.out.cellC y0 ia hia
    have hb2 := hFl g2 hg2F
    obtain ⟨ib, rfl⟩ : ∃ ib : Nat, obb = ib := ⟨obb.toNat, by omega⟩
    have hib : ib < c.Cells.length := by omega
    obtain ⟨g3, s3, e3, _, _, _, z1, _, rg3, _⟩ := HO1.out.cellC y0 ib hib
    obtain ⟨rfl, rfl⟩ : g2 = g3 ∧ s2 = s3 := by cases e3; exact ⟨rfl, rfl⟩
    clear e3
    have hvx := M.vals_at f3 ia
    obtain ⟨x, hx⟩ : ∃ x, c.Cells.getD ia 0 = x := ⟨_, rfl⟩
    rw [hx] at hvx z0
    have hvy := M.vals_at f3 ib
    obtain ⟨y, hy⟩ : ∃ y, c.Cells.getD ib 0 = y := ⟨_, rfl⟩
    rw [hy] at hvy z1
    have hm2 : (x + y).tmod 256 = (x + y) % 256 := Int.tmod_eq_emod_of_nonneg (by omega)
    have hxy1 : -9223372036854775808 ≤ x + y := by omega
    have hxy2 : x + y ≤ 9223372036854775807 := by omega
    obtain ⟨z, hz⟩ : ∃ z, (x + y) % 256 = z := ⟨_, rfl⟩
    have hzr : rng z := ⟨by omega, by omega⟩
    have HZ := Lib.hid (show (c.Cells.getD ia 0 + c.Cells.getD ib 0) % 256 = z by rw [hx, hy]; exact hz)
    rw [hz] at hm2
    clear hz hx hy
    go_upto_region 9 with (fail)
    refine wp_region_quiet_tail 24 (by kernel_rfl) (by kernel_rfl) ?_
    simp only [List.take_succ_cons, List.take_zero, List.drop_succ_cons, List.drop_zero]
    repeat (go_big_quiet_step (fail))
    refine wpQuiet_nil ?_
    go_wp2
    go_meet
    obtain ⟨F1, h⟩ := hput z hzr
    exact M.SB.of rn (by show _ = (⟨_, _, c.Stopped⟩ : Core); rw [HST.out, ← hAt.out, ← HZ.out]; rfl) h (Qt.mk 1) ltgW (by show g2 < _; exact hb2) KA.out KB.out
   ·obtain ⟨ia, rfl⟩ : ∃ ia : Nat, oa = ia := ⟨oa.toNat, by omega⟩
    have hia : ia < c.Cells.length := by omega
    obtain ⟨g2, s2, rfl, hg2, hg2F, ltg2, z0, gf2, rg2, hput⟩ := HO1.out.cellC y0 ia hia
    have hb2 := hFl g2 hg2F
    obtain ⟨ib, rfl⟩ : ∃ ib : Nat, obb = ib := ⟨obb.toNat, by omega⟩
    have hib : ib < c.Cells.length := by omega
    obtain ⟨g3, s3, e3, _, _, _, z1, _, rg3, _⟩ := HO1.out.cellC y0 ib hib
    obtain ⟨rfl, rfl⟩ : g2 = g3 ∧ s2 = s3 := by cases e3; exact ⟨rfl, rfl⟩
    clear e3
    obtain ⟨x, hx⟩ : ∃ x, c.Cells.getD ib 0 = x := ⟨_, rfl⟩
    rw [hx] at z1 rg3
    have HZ := Lib.hid hx
    clear hx
    go_upto_region 11 with (fail)
    refine wp_region_quiet_tail 14 (by kernel_rfl) (by kernel_rfl) ?_
    simp only [List.take_succ_cons, List.take_zero, List.drop_succ_cons, List.drop_zero]
    repeat (go_big_quiet_step (fail))
    refine wpQuiet_nil ?_
    go_wp2
    go_meet
    obtain ⟨F1, h⟩ := hput x rg3
    exact M.SB.of rn (by show _ = (⟨_, _, c.Stopped⟩ : Core); rw [HST.out, ← hAt.out, ← HZ.out]; rfl) h (Qt.mk 1) ltgW (by show g2 < _; exact hb2) KA.out KB.out
   ·obtain ⟨ib, rfl⟩ : ∃ ib : Nat, obb = ib := ⟨obb.toNat, by omega⟩
    have hib : ib < c.Cells.length := by omega
    obtain ⟨g2, s2, rfl, hg2, hg2F, ltg2, z0, gf2, rg2, hput⟩ := HO1.out.cellC y0 ib hib
    clear hput
    obtain ⟨x, hx⟩ : ∃ x, c.Cells.getD ib 0 = x := ⟨_, rfl⟩
    rw [hx] at z0 rg2
    have HX := Lib.hid hx
    clear hx
    cases hx0 : (x == 0)
    ·have HN := Lib.hid hx0
     go_upto_region 15 with (fail)
     go_quiet (fail)
     go_wp2
     go_meet
     exact M.SB.same rn (by show _ = (⟨_, _, c.Stopped⟩ : Core); rw [HST.out, ← hAt.out]; exact M.stepO_jf (by rw [HX.out]; simpa using HN.out)) HO1.out (Qt.mk _) ltgW KA.out KB.out
    ·have HN := Lib.hid hx0
     go_upto_region 15 with (fail)
     go_quiet (fail)
     go_wp2
     go_meet
     exact M.SB.same rA (by show _ = (⟨_, _, c.Stopped⟩ : Core); rw [HST.out]; exact M.stepO_jt (by rw [HX.out]; simpa using HN.out)) HO1.out (Qt.mk _) ltgW KA.out KB.out
   ·go_wp2
    go_meet
    exact M.SB.same rn (by show _ = (⟨_, _, c.Stopped⟩ : Core); rw [HST.out, ← hAt.out]; rfl) HO1.out (Qt.refl _) ltgW KA.out KB.out
   ·go_wp2
    go_meet
    exact M.SB.same rn (by show _ = (⟨_, _, c.Stopped⟩ : Core); rw [HST.out, ← hAt.out]; rfl) HO1.out (Qt.refl _) ltgW KA.out KB.out
   ·obtain ⟨ia, rfl⟩ : ∃ ia : Nat, oa = ia := ⟨oa.toNat, by omega⟩
    have hia : ia < c.Cells.length := by omega
    obtain ⟨g2, s2, rfl, hg2, hg2F, ltg2, z0, gf2, rg2, hput⟩ := HO1.out.cellC y0 ia hia
    have hb2 := hFl g2 hg2F
    have hm2 : t.tmod 256 = t % 256 := Int.tmod_eq_emod_of_nonneg ht0
    obtain ⟨z, hz⟩ : ∃ z, t % 256 = z := ⟨_, rfl⟩
    have hzr : rng z := ⟨by omega, by omega⟩
    have HZ := Lib.hid hz
    rw [hz] at hm2
    clear hz
    go_upto_region 13 with (fail)
    refine wp_region_quiet_tail 8 (by kernel_rfl) (by kernel_rfl) ?_
    simp only [List.take_succ_cons, List.take_zero, List.drop_succ_cons, List.drop_zero]
    repeat (go_big_quiet_step (fail))
    refine wpQuiet_nil ?_
    go_wp2
    go_meet
    obtain ⟨F1, h⟩ := hput z hzr
    exact M.SB.of rn (by show _ = (⟨_, _, c.Stopped⟩ : Core); rw [HST.out, ← hAt.out, ← HZ.out]; rfl) h (Qt.mk 1) ltgW (by show g2 < _; exact hb2) KA.out KB.out
   ·go_wp2
    go_meet
    exact M.SB.same rn (by show _ = (⟨_, _, c.Stopped⟩ : Core); rw [HST.out, ← hAt.out]; rfl) HO1.out (Qt.refl _) ltgW KA.out KB.out
   ·have hrA2 : rng (A : Int) := by rw [← HCA.out]; exact hrA
    have gfW : ∀ j, W.frozen? ⟨g, j, none⟩ = false := HO1.out.bk.2.2.2
    obtain ⟨F1, h⟩ := HO1.out.putStop true
    replace h := Lib.hid h
    go_wp2
    go_meet
    exact M.SB.of hrA2 (by rw [← HCA.out]; rfl) h.out (Qt.refl _) ltgW ltg KA.out KB.out
  case rest =>
   obtain ⟨c1, n1, F1, rfl, hn1, hr1, om1, ch1, sub1, kA1, kB1⟩ := hcut
   have gfc : ∀ j, wc.frozen? ⟨g, j, none⟩ = false := om1.bk.2.2.2
   have hgA : g ≠ w.heap.size := by omega
   have hgB : g ≠ w.heap.size + 1 := by omega
   obtain ⟨_, _, _, u1, _, _, _⟩ := om1.openC
   obtain ⟨F2, om2, sub2, ch2⟩ := om1.putAt n1 hn1
   have kA2 := kA1.set_ne (p := ⟨g, s + 1, none⟩) (fun e => hgA e.symm) (.int .i64 n1)
   have kB2 := kB1.set_ne (p := ⟨g, s + 1, none⟩) (fun e => hgB e.symm) (.int .i64 n1)
   have OM2 := Lib.hid om2
   have CH2 := Lib.hid ((Chg.ofExt E1.out ltg).tr (ch1.trF ch2 (fun x hx => .inl (sub1 x hx))))
   have SUB := Lib.hid (fun k hk => sub1 k (sub2 k hk))
   have HR := Lib.hid hr1
   clear om2 ch1 ch2 sub1 sub2 hr1 om1 HO HO1
   go_upto_region 21 with (fail)
   refine abs_world (fun W2 => Om L W2 g s { c1 with At := n1 } F2 ∧ Chg g s 3 F w W2 ∧ Bk W2 w.heap.size [.int .i64 0, .int .i64 0, .int .i64 0] 68 ∧ Bk W2 (w.heap.size + 1) [.int .i64 op, .int .i64 oa, .int .i64 obb] 68) ⟨OM2.out, CH2.out, kA2, kB2⟩ ?_
   rintro W2 ⟨om3, ch3, kA3, kB3⟩
   have cA0 := kA3.cell (j := 0) rfl
   have cA1 := kA3.cell (j := 1) rfl
   have cA2 := kA3.cell (j := 2) rfl
   have cAf := kA3.fz
   have cB0 := kB3.cell (j := 0) rfl
   have cB1 := kB3.cell (j := 1) rfl
   have cB2 := kB3.cell (j := 2) rfl
   have KS := Lib.hid (((kA3.set 0 (.int .i64 op)).set 1 (.int .i64 oa)).set 2 (.int .i64 obb))
   have d0 := KS.out.cell (j := 0) rfl
   have d1 := KS.out.cell (j := 1) rfl
   have d2 := KS.out.cell (j := 2) rfl
   have OM3 := Lib.hid om3
   have CH3 := Lib.hid ch3
   clear om3 ch3 kA3 kB3 kA1 kB1 kA2 kB2 OM2 CH2 u1
   go_wp2
   have hF2 : w.heap.size ∉ F2 := fun hm => by have := hFl _ (SUB.out _ hm); omega
   have EE : Ext W2 W2 := Ext.refl _
   refine bodyPost_ret (v := .agg #[.int .i64 op, .int .i64 oa, .int .i64 obb]) (by simp [results, Tryz.results105, go_sem, d0, d1, d2]) rfl ⟨by rw [hE.out], F2, ?_, ?_, SUB.out⟩
   ·rw [hE.out, HR.out]
    exact ((OM3.out.setX hgA hF2 _).setX hgA hF2 _).setX hgA hF2 _
   ·exact ((CH3.out.setNew (Nat.le_refl _) ltg _).setNew (Nat.le_refl _) ltg _).setNew (Nat.le_refl _) ltg _
 ·rw [hst] at x2
  have hE : M.step c p t = (c, M.oz) := by unfold M.step; rw [if_pos hst]
  clear hst
  go_upto_region 1 with (fail)
  refine abs_world (fun W => Ext w W ∧ Bk W w.heap.size [.int .i64 0, .int .i64 0, .int .i64 0] 68) ⟨(Ext.refl _).alloc _, Bk.new _ _ _⟩ ?_
  rintro W ⟨e1, kA⟩
  have y2 := (cell_ext e1 ltg).trans x2
  have a0 := kA.cell (j := 0) rfl
  have a1 := kA.cell (j := 1) rfl
  have a2 := kA.cell (j := 2) rfl
  have af := kA.fz
  have E1 := Lib.hid e1
  have KA := Lib.hid kA
  clear e1 x0 x1 x2 q0 q1 q2 hc
  go_wp2
  refine bodyPost_ret (v := .agg #[.int .i64 0, .int .i64 0, .int .i64 0]) (by simp [results, Tryz.results105, go_sem, a0, a1, a2]) rfl ⟨by rw [hE]; rfl, F, by rw [hE]; exact HO.out.ext (((E1.out.set (Nat.le_refl _) _).set (Nat.le_refl _) _).set (Nat.le_refl _) _), Chg.ofExt (((E1.out.set (Nat.le_refl _) _).set (Nat.le_refl _) _).set (Nat.le_refl _) _) ltg, fun k hk => hk⟩
end Sk
namespace Sk
open Go Go.Proofs Go.RowKit
set_option maxHeartbeats 1000000
set_option linter.unusedVariables false
set_option linter.unusedSimpArgs false
def M.stop (c : Core) : Core := { c with Stopped := true }
def M.put (c : Core) (k u : Int) : Core := { c with Cells := c.Cells.set k.toNat u }
def M.cz : Core := ⟨[], 0, false⟩
/-- A message is sent over a channel: the core, what the channel holds. -/
def M.sendC (ch : Channel) (h : Hold) (c : Core) (o : Order) : Core × Hold :=
 (if ch.Kind = 3 then M.put c o.B (M.send h ch.Kind ch.Size (c.Cells.getD o.B.toNat 0)).2 else c, (M.send h ch.Kind ch.Size (c.Cells.getD o.B.toNat 0)).1)
def M.takeC (ch : Channel) (h : Hold) (c : Core) (o : Order) : Core × Hold :=
 (if 0 ≤ (M.take h ch.Kind).2 then M.put c o.B (M.take h ch.Kind).2 else c, (M.take h ch.Kind).1)
theorem M.sendC_t {ch : Channel} {h : Hold} {c : Core} {o : Order} {vv r2 : Int} {r1 : Hold} (hv : c.Cells.getD o.B.toNat 0 = vv) (hk : ch.Kind = 3) (h1 : (M.send h ch.Kind ch.Size vv).1 = r1) (h2 : (M.send h ch.Kind ch.Size vv).2 = r2) : M.sendC ch h c o = (M.put c o.B r2, r1) := by
 unfold M.sendC; rw [hv, h1, h2, if_pos hk]
theorem M.sendC_f {ch : Channel} {h : Hold} {c : Core} {o : Order} {vv r2 : Int} {r1 : Hold} (hv : c.Cells.getD o.B.toNat 0 = vv) (hk : ¬ ch.Kind = 3) (h1 : (M.send h ch.Kind ch.Size vv).1 = r1) (h2 : (M.send h ch.Kind ch.Size vv).2 = r2) : M.sendC ch h c o = (c, r1) := by
 unfold M.sendC; rw [hv, h1, if_neg hk]
theorem M.takeC_t {ch : Channel} {h : Hold} {c : Core} {o : Order} {r2 : Int} {r1 : Hold} (hk : 0 ≤ r2) (h1 : (M.take h ch.Kind).1 = r1) (h2 : (M.take h ch.Kind).2 = r2) : M.takeC ch h c o = (M.put c o.B r2, r1) := by
 unfold M.takeC; rw [h1, h2, if_pos hk]
theorem M.takeC_f {ch : Channel} {h : Hold} {c : Core} {o : Order} {r2 : Int} {r1 : Hold} (hk : ¬ 0 ≤ r2) (h1 : (M.take h ch.Kind).1 = r1) (h2 : (M.take h ch.Kind).2 = r2) : M.takeC ch h c o = (c, r1) := by
 unfold M.takeC; rw [h1, h2, if_neg hk]
/-- What the core of partition n, the contents of the channels and the number of the channel are behind an instruction. -/
def M.act (cs : List Channel) (hs : List Hold) (n : Int) (c : Core) (o : Order) : Core × List Hold × Int :=
 if o.Op = 5 then
  match cs[o.A.toNat]? with
  | some ch => if ch.From = n then ((M.sendC ch (hs.getD o.A.toNat ⟨[]⟩) c o).1, hs.set o.A.toNat (M.sendC ch (hs.getD o.A.toNat ⟨[]⟩) c o).2, o.A) else (M.stop c, hs, -1)
  | none => (M.stop c, hs, -1)
 else if o.Op = 6 then
  match cs[o.A.toNat]? with
  | some ch => if ch.To = n then ((M.takeC ch (hs.getD o.A.toNat ⟨[]⟩) c o).1, hs.set o.A.toNat (M.takeC ch (hs.getD o.A.toNat ⟨[]⟩) c o).2, -1) else (M.stop c, hs, -1)
  | none => (M.stop c, hs, -1)
 else (c, hs, -1)
/-- The core of a partition and its instruction. -/
def M.stepAt (m : Machine) (n : Nat) : Core × Order := M.step (m.Cores.getD n M.cz) (m.Programs.getD n []) (M.own m.Plan.Slots n m.Tick)
def M.actAt (m : Machine) (n : Nat) : Core × List Hold × Int := M.act m.Plan.Channels m.Holds n (M.stepAt m n).1 (M.stepAt m n).2
def M.run1 (m : Machine) (n : Nat) : Machine := { m with Cores := m.Cores.set n (M.actAt m n).1, Holds := (M.actAt m n).2.1, Tick := m.Tick + 1 }
def M.tick (m : Machine) : Machine := if M.who m.Plan.Slots m.Tick < 0 then { m with Tick := m.Tick + 1 } else M.run1 m (M.who m.Plan.Slots m.Tick).toNat
/-- The channel over which a machine sends in a tick, or -1. -/
def M.over (m : Machine) : Int := if M.who m.Plan.Slots m.Tick < 0 then -1 else (M.actAt m (M.who m.Plan.Slots m.Tick).toNat).2.2
theorem M.MV.ssv {m : Machine} (h : M.MV m) : M.ssv m.Plan.Slots m.Plan.Parts.length = true := by
 have := h.pg.set
 simp only [M.setv, Bool.and_eq_true] at this
 exact this.2.2
/-- Who runs is a partition, or nobody. -/
theorem M.MV.who {m : Machine} (h : M.MV m) (t : Int) : M.who m.Plan.Slots t = -1 ∨ ∃ n : Nat, M.who m.Plan.Slots t = n ∧ n < m.Cores.length := by
 obtain ⟨x, hx, e⟩ := M.who_mem (M.SL.of h.ssv) t
 have h1 := ((M.ssv_all h.ssv).2.2.2 x hx).2
 have h2 := h.nc
 by_cases hn : M.who m.Plan.Slots t < 0
 ·left; omega
 ·right; exact ⟨(M.who m.Plan.Slots t).toNat, by omega, by omega⟩
/-- What a partition of a valid machine has. -/
theorem M.MV.at {m : Machine} (h : M.MV m) {n : Nat} (hn : n < m.Cores.length) : ∃ c p q, m.Cores[n]? = some c ∧ m.Programs[n]? = some p ∧ m.Plan.Parts[n]? = some q ∧ M.fits c p.length q.Cells = true ∧ M.prv p q.Cells = true ∧ m.Cores.getD n M.cz = c ∧ m.Programs.getD n [] = p := by
 have h1 := h.nc
 have h2 := h.pg.np
 have e1 : m.Cores[n]? = some m.Cores[n] := List.getElem?_eq_getElem hn
 have e2 : m.Programs[n]? = some (m.Programs[n]'(by omega)) := List.getElem?_eq_getElem (by omega)
 have e3 : m.Plan.Parts[n]? = some (m.Plan.Parts[n]'(by omega)) := List.getElem?_eq_getElem (by omega)
 exact ⟨_, _, _, e1, e2, e3, h.fits n _ _ _ e1 e2 e3, h.pg.prv n _ _ e2 e3, by rw [List.getD_eq_getElem?_getD, e1]; rfl, by rw [List.getD_eq_getElem?_getD, e2]; rfl⟩
theorem M.hv_iff {h : Hold} {k s : Int} : M.hv h k s = true ↔ M.sized k s = true ∧ (h.Lst.length : Int) ≤ s ∧ ∀ x ∈ h.Lst, 0 ≤ x ∧ x ≤ 255 := by
 unfold M.hv
 simp only [Bool.and_eq_true, decide_eq_true_eq, M.vals_iff]
theorem M.send_hv {h : Hold} {k s u : Int} (hv : M.hv h k s = true) (hu : 0 ≤ u ∧ u ≤ 255) : M.hv (M.send h k s u).1 k s = true := by
 obtain ⟨h1, h2, h3⟩ := M.hv_iff.1 hv
 unfold M.send
 have hs := M.sized_pos h1
 split
 ·exact M.hv_iff.2 ⟨h1, by show ((1 : Nat) : Int) ≤ s; omega, fun x hx => by rw [List.mem_singleton.1 hx]; exact hu⟩
 split
 ·refine M.hv_iff.2 ⟨h1, by show (((h.Lst ++ [u]).length : Nat) : Int) ≤ s; simp; omega, fun x hx => ?_⟩
  rcases List.mem_append.1 hx with hx | hx
  ·exact h3 x hx
  ·rw [List.mem_singleton.1 hx]; exact hu
 ·exact hv
theorem M.send_bd {h : Hold} {k s u : Int} : 0 ≤ (M.send h k s u).2 ∧ (M.send h k s u).2 ≤ 1 := by
 unfold M.send
 split
 ·exact ⟨by show (0 : Int) ≤ 0; decide, by show (0 : Int) ≤ 1; decide⟩
 split
 ·exact ⟨by show (0 : Int) ≤ 0; decide, by show (0 : Int) ≤ 1; decide⟩
 ·show 0 ≤ M.bit _ ∧ M.bit _ ≤ 1
  cases (k == 3) <;> exact ⟨by decide, by decide⟩
theorem M.take_hv {h : Hold} {k s : Int} (hv : M.hv h k s = true) : M.hv (M.take h k).1 k s = true := by
 obtain ⟨h1, h2, h3⟩ := M.hv_iff.1 hv
 obtain ⟨l⟩ := h
 unfold M.take
 cases l with
 | nil => exact hv
 | cons x r =>
  simp only
  split
  ·exact hv
  ·exact M.hv_iff.2 ⟨h1, by simp at h2; show ((r.length : Nat) : Int) ≤ s; omega, fun y hy => h3 y (List.mem_cons_of_mem _ hy)⟩
theorem M.take_bd {h : Hold} {k s : Int} (hv : M.hv h k s = true) : -1 ≤ (M.take h k).2 ∧ (M.take h k).2 ≤ 255 := by
 obtain ⟨h1, h2, h3⟩ := M.hv_iff.1 hv
 obtain ⟨l⟩ := h
 unfold M.take
 cases l with
 | nil => exact ⟨by show (-1 : Int) ≤ -1; decide, by show (-1 : Int) ≤ 255; decide⟩
 | cons x r =>
  have := h3 x (List.mem_cons_self ..)
  simp only
  split
  ·exact ⟨by show -1 ≤ x; omega, this.2⟩
  ·exact ⟨by show -1 ≤ x; omega, this.2⟩
theorem M.put_fits {c : Core} {n : Nat} {q k u : Int} (h : M.fits c n q = true) (hu : 0 ≤ u ∧ u ≤ 255) : M.fits (M.put c k u) n q = true := by
 obtain ⟨h1, h2, h3⟩ := M.fits_iff.1 h
 exact M.fits_iff.2 ⟨by simpa [M.put] using h1, h2, M.vals_set h3 _ hu⟩
theorem M.stop_fits {c : Core} {n : Nat} {q : Int} (h : M.fits c n q = true) : M.fits (M.stop c) n q = true := h
theorem M.sendC_ok {ch : Channel} {h : Hold} {c : Core} {o : Order} {n : Nat} {q : Int} (hv : M.hv h ch.Kind ch.Size = true) (hf : M.fits c n q = true) :
  M.fits (M.sendC ch h c o).1 n q = true ∧ M.hv (M.sendC ch h c o).2 ch.Kind ch.Size = true := by
 obtain ⟨_, _, h3⟩ := M.fits_iff.1 hf
 refine ⟨?_, M.send_hv hv (M.vals_at h3 _)⟩
 unfold M.sendC
 simp only
 split
 ·exact M.put_fits hf (by have := M.send_bd (h := h) (k := ch.Kind) (s := ch.Size) (u := c.Cells.getD o.B.toNat 0); omega)
 ·exact hf
theorem M.takeC_ok {ch : Channel} {h : Hold} {c : Core} {o : Order} {n : Nat} {q : Int} (hv : M.hv h ch.Kind ch.Size = true) (hf : M.fits c n q = true) :
  M.fits (M.takeC ch h c o).1 n q = true ∧ M.hv (M.takeC ch h c o).2 ch.Kind ch.Size = true := by
 refine ⟨?_, M.take_hv hv⟩
 unfold M.takeC
 simp only
 split
 ·exact M.put_fits hf ⟨by assumption, (M.take_bd hv).2⟩
 ·exact hf
/-- The four ways of an instruction behind StepCore. -/
inductive M.Act4 (cs : List Channel) (hs : List Hold) (n : Int) (c : Core) (o : Order) : Prop
 | none (h5 : o.Op ≠ 5) (h6 : o.Op ≠ 6) (e : M.act cs hs n c o = (c, hs, -1))
 | stop (h56 : o.Op = 5 ∨ o.Op = 6) (h : cs.length ≤ o.A.toNat ∨ ∃ ch, cs[o.A.toNat]? = some ch ∧ ((o.Op = 5 ∧ ch.From ≠ n) ∨ (o.Op = 6 ∧ ch.To ≠ n))) (e : M.act cs hs n c o = (M.stop c, hs, -1))
 | send (h5 : o.Op = 5) (ch : Channel) (hc : cs[o.A.toNat]? = some ch) (hn : ch.From = n) (e : M.act cs hs n c o = ((M.sendC ch (hs.getD o.A.toNat ⟨[]⟩) c o).1, hs.set o.A.toNat (M.sendC ch (hs.getD o.A.toNat ⟨[]⟩) c o).2, o.A))
 | take (h6 : o.Op = 6) (ch : Channel) (hc : cs[o.A.toNat]? = some ch) (hn : ch.To = n) (e : M.act cs hs n c o = ((M.takeC ch (hs.getD o.A.toNat ⟨[]⟩) c o).1, hs.set o.A.toNat (M.takeC ch (hs.getD o.A.toNat ⟨[]⟩) c o).2, -1))
theorem M.act4 (cs : List Channel) (hs : List Hold) (n : Int) (c : Core) (o : Order) : M.Act4 cs hs n c o := by
 have key : ∀ k, k = o.A.toNat → (cs.length ≤ k ∧ cs[k]? = Option.none) ∨ ∃ ch, cs[k]? = some ch := fun k _ => by
  by_cases h : k < cs.length
  ·exact .inr ⟨_, List.getElem?_eq_getElem h⟩
  ·exact .inl ⟨by omega, List.getElem?_eq_none (by omega)⟩
 by_cases h5 : o.Op = 5
 ·rcases key _ rfl with ⟨hl, hc⟩ | ⟨ch, hc⟩
  ·exact .stop (.inl h5) (.inl hl) (by unfold M.act; rw [if_pos h5, hc])
  ·by_cases hn : ch.From = n
   ·exact .send h5 ch hc hn (by unfold M.act; rw [if_pos h5, hc]; exact if_pos hn)
   ·exact .stop (.inl h5) (.inr ⟨ch, hc, .inl ⟨h5, hn⟩⟩) (by unfold M.act; rw [if_pos h5, hc]; exact if_neg hn)
 by_cases h6 : o.Op = 6
 ·rcases key _ rfl with ⟨hl, hc⟩ | ⟨ch, hc⟩
  ·exact .stop (.inr h6) (.inl hl) (by unfold M.act; rw [if_neg h5, if_pos h6, hc])
  ·by_cases hn : ch.To = n
   ·exact .take h6 ch hc hn (by unfold M.act; rw [if_neg h5, if_pos h6, hc]; exact if_pos hn)
   ·exact .stop (.inr h6) (.inr ⟨ch, hc, .inr ⟨h6, hn⟩⟩) (by unfold M.act; rw [if_neg h5, if_pos h6, hc]; exact if_neg hn)
 ·exact .none h5 h6 (by unfold M.act; rw [if_neg h5, if_neg h6])
theorem M.MV.hold {m : Machine} (h : M.MV m) {k : Nat} {ch : Channel} (hc : m.Plan.Channels[k]? = some ch) : ∃ x, m.Holds[k]? = some x ∧ M.hv x ch.Kind ch.Size = true ∧ m.Holds.getD k ⟨[]⟩ = x := by
 have h1 := lt_of_some hc
 have h2 := h.nh
 have e : m.Holds[k]? = some (m.Holds[k]'(by omega)) := List.getElem?_eq_getElem (by omega)
 exact ⟨_, e, h.hv k _ _ e hc, by rw [List.getD_eq_getElem?_getD, e]; rfl⟩
/-- A core and a content turned. -/
theorem M.MV.set {m : Machine} (h : M.MV m) {n : Nat} {c : Core} {p : List Order} {q : Part} (hp : m.Programs[n]? = some p) (hq : m.Plan.Parts[n]? = some q) (hf : M.fits c p.length q.Cells = true) {t : Int} (ht : 0 ≤ t ∧ t ≤ 100000) : M.MV { m with Cores := m.Cores.set n c, Tick := t } where
 pg := h.pg
 nc := by simpa using h.nc
 nh := h.nh
 hv := h.hv
 tick := ht
 fits := fun k c' p' q' h1 h2 h3 => by
  simp only at h1 h2 h3
  rw [List.getElem?_set] at h1
  split at h1
  ·subst k
   split at h1
   ·cases h1
    rw [hp] at h2; rw [hq] at h3
    cases h2; cases h3
    exact hf
   ·cases h1
  ·exact h.fits k c' p' q' h1 h2 h3
theorem M.MV.setH {m : Machine} (h : M.MV m) {k : Nat} {ch : Channel} (hc : m.Plan.Channels[k]? = some ch) {x : Hold} (hv : M.hv x ch.Kind ch.Size = true) : M.MV { m with Holds := m.Holds.set k x } where
 pg := h.pg
 nc := h.nc
 nh := by simpa using h.nh
 fits := h.fits
 tick := h.tick
 hv := fun j x' c' h1 h2 => by
  simp only at h1 h2
  rw [List.getElem?_set] at h1
  split at h1
  ·subst j
   split at h1
   ·cases h1
    rw [hc] at h2; cases h2
    exact hv
   ·cases h1
  ·exact h.hv j x' c' h1 h2
theorem M.run1_MV {m : Machine} (h : M.MV m) (ht : m.Tick < 100000) {n : Nat} (hn : n < m.Cores.length) : M.MV (M.run1 m n) := by
 obtain ⟨c, p, q, h1, h2, h3, h4, h5, e1, e2⟩ := h.at hn
 have ht0 := h.tick
 have hs : M.fits (M.stepAt m n).1 p.length q.Cells = true := by
  unfold M.stepAt
  rw [e1, e2]
  exact M.step_fits h4 h5 (M.own_bd (by omega)).1
 have htk : 0 ≤ m.Tick + 1 ∧ m.Tick + 1 ≤ 100000 := by omega
 unfold M.run1 M.actAt
 rcases M.act4 m.Plan.Channels m.Holds n (M.stepAt m n).1 (M.stepAt m n).2 with ⟨_, _, e⟩ | ⟨_, _, e⟩ | ⟨_, ch, hc, _, e⟩ | ⟨_, ch, hc, _, e⟩
 ·rw [e]; exact h.set h2 h3 hs htk
 ·rw [e]; exact h.set h2 h3 (M.stop_fits hs) htk
 ·obtain ⟨x, hx, hxv, ex⟩ := h.hold hc
  rw [e, ex]
  obtain ⟨k1, k2⟩ := M.sendC_ok (o := (M.stepAt m n).2) hxv hs
  exact (h.set h2 h3 k1 htk).setH hc k2
 ·obtain ⟨x, hx, hxv, ex⟩ := h.hold hc
  rw [e, ex]
  obtain ⟨k1, k2⟩ := M.takeC_ok (o := (M.stepAt m n).2) hxv hs
  exact (h.set h2 h3 k1 htk).setH hc k2
/-- A machine is valid behind a tick. -/
theorem M.tick_MV {m : Machine} (h : M.MV m) (ht : m.Tick < 100000) : M.MV (M.tick m) := by
 have ht0 := h.tick
 unfold M.tick
 split
 ·exact ⟨h.pg, h.nc, h.nh, h.fits, h.hv, (by show 0 ≤ m.Tick + 1 ∧ m.Tick + 1 ≤ 100000; omega)⟩
 ·rename_i hn
  rcases h.who m.Tick with e | ⟨n, e, hl⟩
  ·omega
  ·rw [e]; exact M.run1_MV h ht hl
theorem M.tick_none {m : Machine} (h : M.who m.Plan.Slots m.Tick < 0) : M.tick m = ⟨m.Plan, m.Programs, m.Cores, m.Holds, m.Tick + 1⟩ := if_pos h
theorem M.over_none {m : Machine} (h : M.who m.Plan.Slots m.Tick < 0) : M.over m = -1 := if_pos h
theorem M.tick_some {m : Machine} {n : Nat} (h : M.who m.Plan.Slots m.Tick = n) : M.tick m = M.run1 m n := by unfold M.tick; rw [if_neg (by omega), h]; rfl
theorem M.over_some {m : Machine} {n : Nat} (h : M.who m.Plan.Slots m.Tick = n) : M.over m = (M.actAt m n).2.2 := by unfold M.over; rw [if_neg (by omega), h]; rfl
theorem M.tick_plan (m : Machine) : (M.tick m).Plan = m.Plan := by unfold M.tick M.run1; split <;> rfl
theorem M.tick_progs (m : Machine) : (M.tick m).Programs = m.Programs := by unfold M.tick M.run1; split <;> rfl
theorem M.tick_tick (m : Machine) : (M.tick m).Tick = m.Tick + 1 := by unfold M.tick M.run1; split <;> rfl
theorem M.tick_cores (m : Machine) : (M.tick m).Cores.length = m.Cores.length := by unfold M.tick M.run1; split <;> simp
theorem M.act_len (cs : List Channel) (hs : List Hold) (n : Int) (c : Core) (o : Order) : (M.act cs hs n c o).2.1.length = hs.length := by
 rcases M.act4 cs hs n c o with ⟨_, _, e⟩ | ⟨_, _, e⟩ | ⟨_, ch, _, _, e⟩ | ⟨_, ch, _, _, e⟩ <;> rw [e] <;> simp
theorem M.tick_holds (m : Machine) : (M.tick m).Holds.length = m.Holds.length := by
 unfold M.tick M.run1; split
 ·rfl
 ·exact M.act_len _ _ _ _ _
end Sk
namespace Sk
open Go Go.Proofs Go.RowKit
set_option maxHeartbeats 1000000
set_option linter.unusedVariables false
set_option linter.unusedSimpArgs false
theorem Om.putTick {L : Nat} {w : World} {b : Nat} {m : Machine} {F : List Nat} (h : Om L w b 0 m F) (u : Int) (hu : rng u) : ∃ F', Om L (w.setCell ⟨b, 6, none⟩ (.int .i64 u)) b 0 { m with Tick := u } F' ∧ (∀ k ∈ F', k ∈ F) ∧ Chg b 0 7 F w (w.setCell ⟨b, 6, none⟩ (.int .i64 u)) := by
 obtain ⟨_, _, _, ho⟩ := id h
 obtain ⟨Fc, lc⟩ := h.lMachineTick
 exact lc.putI ho u hu
/-- A machine at (b, 0), of one's own, that came of the one at w: what may have turned, and what has not. -/
structure M.TB (L b : Nat) (F : List Nat) (w W : World) (m : Machine) (F' : List Nat) : Prop where
 om : Om L W b 0 m F'
 ch : Chg b 0 7 F w W
 sub : ∀ k ∈ F', k ∈ F ∨ w.heap.size ≤ k
 cl : ∀ j, j ≠ 6 → W.cell? ⟨b, j, none⟩ = w.cell? ⟨b, j, none⟩
theorem M.TB.refl {L b : Nat} {F : List Nat} {w : World} {m : Machine} (h : Om L w b 0 m F) : M.TB L b F w w m F := ⟨h, Chg.refl _ _ _ _ _, fun _ h => .inl h, fun _ _ => rfl⟩
theorem M.TB.lt {L b : Nat} {F F' : List Nat} {w W : World} {m : Machine} (h : M.TB L b F w W m F') : b < W.heap.size := h.om.bk.1
theorem M.TB.ltF {L b : Nat} {F F' : List Nat} {w W : World} {m : Machine} (h : M.TB L b F w W m F') : ∀ k ∈ F', k < W.heap.size := fun k hk => by
 obtain ⟨_, _, _, ho⟩ := id h.om
 exact ho.lt (List.mem_cons_of_mem _ hk)
theorem M.TB.fz {L b : Nat} {F F' : List Nat} {w W : World} {m : Machine} (h : M.TB L b F w W m F') : ∀ j, W.frozen? ⟨b, j, none⟩ = false := h.om.bk.2.2.2
theorem M.TB.ext {L b : Nat} {F F' : List Nat} {w W W' : World} {m : Machine} (h : M.TB L b F w W m F') (he : Ext W W') : M.TB L b F w W' m F' :=
 ⟨h.om.ext he, h.ch.tr (Chg.ofExt he h.lt), h.sub, fun j hj => (cell_ext he h.lt).trans (h.cl j hj)⟩
theorem M.TB.trans {L b : Nat} {F F1 F2 : List Nat} {w W W' : World} {m m' : Machine} (h : M.TB L b F w W m F1) (k : M.TB L b F1 W W' m' F2) : M.TB L b F w W' m' F2 :=
 ⟨k.om, h.ch.trF k.ch h.sub, fun x hx => (k.sub x hx).elim (fun h1 => h.sub x h1) (fun h1 => .inr (Nat.le_trans h.ch.sz h1)), fun j hj => (k.cl j hj).trans (h.cl j hj)⟩
theorem M.TB.bk {L b : Nat} {F F' : List Nat} {w W : World} {m : Machine} (h : M.TB L b F w W m F') {k : Nat} {cs : List Value} {T : TypeId} (hk : Bk w k cs T) (hb : k ≠ b) (hF : k ∉ F) : Bk W k cs T := h.ch.bk hk hb hF
theorem M.TB.tick {L b : Nat} {F F' : List Nat} {w W : World} {m : Machine} (h : M.TB L b F w W m F') (u : Int) (hu : rng u) : ∃ F2, M.TB L b F w (W.setCell ⟨b, 6, none⟩ (.int .i64 u)) { m with Tick := u } F2 := by
 obtain ⟨F2, h1, h2, h3⟩ := h.om.putTick u hu
 exact ⟨F2, h1, h.ch.trF h3 h.sub, fun k hk => h.sub k (h2 k hk), fun j hj => (cell_set_other (fun e => hj e.symm)).trans (h.cl j hj)⟩
/-- The core of a partition. -/
theorem M.TB.core {L b : Nat} {F F' : List Nat} {w W : World} {m : Machine} (h : M.TB L b F w W m F') {g s n c N : Nat} (hv : w.cell? ⟨b, 4, none⟩ = some (.slice (some ⟨g, s, none⟩) n c)) (hN : N < m.Cores.length) :
  ∃ k Fy, m.Cores[N]? = some k ∧ Om L W g (s + N * 3) k Fy ∧ (∀ x ∈ g :: Fy, x ∈ F' ∧ x ≠ b) ∧
   ∀ W' k' Fy', Chg g (s + N * 3) 3 Fy W W' → Om L W' g (s + N * 3) k' Fy' → (∀ x ∈ Fy', x ∈ Fy ∨ W.heap.size ≤ x) → ∃ F2, M.TB L b F w W' { m with Cores := m.Cores.set N k' } F2 := by
 obtain ⟨_, _, _, ho⟩ := id h.om
 obtain ⟨Fc, lc⟩ := h.om.lMachineCores
 obtain ⟨g', s', Fy, k, e, hx, hsub, li⟩ := (lc.om ho).idxS (by rw [show 0 + 4 = 4 from rfl]; exact (h.cl 4 (by decide)).trans hv) N hN
 cases e
 have LC := lc.comp li
 have hs : ∀ x ∈ g :: Fy, x ∈ F' ∧ x ≠ b := fun x hx => Lens.fsub lc ho x (hsub x hx)
 refine ⟨k, Fy, hx.out, LC.om ho, hs, fun W' k' Fy' hc hk' hf => ?_⟩
 obtain ⟨F2, h1, h2, h3⟩ := LC.back L W' k' Fy' ho hc hk' hf
 have hb : ∀ j, W'.cell? ⟨b, j, none⟩ = W.cell? ⟨b, j, none⟩ := fun j => World.cell?_of_block (hc.keep h.lt (fun e => (hs g (List.mem_cons_self ..)).2 e.symm) (fun hm => (hs b (List.mem_cons_of_mem _ hm)).2 rfl))
 refine ⟨F2, h1, h.ch.trF h3 h.sub, fun x hx => ?_, fun j hj => (hb j).trans (h.cl j hj)⟩
 rcases h2 x hx with h4 | h4
 ·exact h.sub x h4
 ·rcases hf x h4 with h5 | h5
  ·exact h.sub x (hs x (List.mem_cons_of_mem _ h5)).1
  ·exact .inr (Nat.le_trans h.ch.sz h5)
/-- What a channel holds. -/
theorem M.TB.hold {L b : Nat} {F F' : List Nat} {w W : World} {m : Machine} (h : M.TB L b F w W m F') {g s n c N : Nat} (hv : w.cell? ⟨b, 5, none⟩ = some (.slice (some ⟨g, s, none⟩) n c)) (hN : N < m.Holds.length) :
  ∃ k Fy, m.Holds[N]? = some k ∧ Om L W g (s + N) k Fy ∧ (∀ x ∈ g :: Fy, x ∈ F' ∧ x ≠ b) ∧
   ∀ W' k' Fy', Chg g (s + N) 1 Fy W W' → Om L W' g (s + N) k' Fy' → (∀ x ∈ Fy', x ∈ Fy ∨ W.heap.size ≤ x) → ∃ F2, M.TB L b F w W' { m with Holds := m.Holds.set N k' } F2 := by
 obtain ⟨_, _, _, ho⟩ := id h.om
 obtain ⟨Fc, lc⟩ := h.om.lMachineHolds
 obtain ⟨g', s', Fy, k, e, hx, hsub, li⟩ := (lc.om ho).idxS (by rw [show 0 + 5 = 5 from rfl]; exact (h.cl 5 (by decide)).trans hv) N hN
 cases e
 have LC := lc.comp li
 have hs : ∀ x ∈ g :: Fy, x ∈ F' ∧ x ≠ b := fun x hx => Lens.fsub lc ho x (hsub x hx)
 simp only [GT.sz, Nat.mul_one] at LC
 refine ⟨k, Fy, hx.out, LC.om ho, hs, fun W' k' Fy' hc hk' hf => ?_⟩
 obtain ⟨F2, h1, h2, h3⟩ := LC.back L W' k' Fy' ho hc hk' hf
 have hb : ∀ j, W'.cell? ⟨b, j, none⟩ = W.cell? ⟨b, j, none⟩ := fun j => World.cell?_of_block (hc.keep h.lt (fun e => (hs g (List.mem_cons_self ..)).2 e.symm) (fun hm => (hs b (List.mem_cons_of_mem _ hm)).2 rfl))
 refine ⟨F2, h1, h.ch.trF h3 h.sub, fun x hx => ?_, fun j hj => (hb j).trans (h.cl j hj)⟩
 rcases h2 x hx with h4 | h4
 ·exact h.sub x h4
 ·rcases hf x h4 with h5 | h5
  ·exact h.sub x (hs x (List.mem_cons_of_mem _ h5)).1
  ·exact .inr (Nat.le_trans h.ch.sz h5)
theorem Om.openH {L : Nat} {w : World} {b o : Nat} {x : Hold} {F : List Nat} (h : Om L w b o x F) : ∃ v, w.cell? ⟨b, o, none⟩ = some v ∧ Rv w (.agg #[v]) x := by
 obtain ⟨cs, he, hat, ho⟩ := h
 obtain ⟨v, rfl, hs⟩ := id he
 exact ⟨v, by simpa using hat 0 _ rfl, [v], F, rfl, he⟩
theorem Om.openHs {L : Nat} {w : World} {b o : Nat} {x : Hold} {F : List Nat} (h : Om L w b o x F) : ∃ a c, w.cell? ⟨b, o, none⟩ = some (.slice a x.Lst.length c) ∧ Rv w (.agg #[.slice a x.Lst.length c]) x := by
 obtain ⟨cs, he, hat, ho⟩ := h
 obtain ⟨v, rfl, hs⟩ := id he
 obtain ⟨a, c, rfl, _⟩ := id hs
 exact ⟨a, c, by simpa using hat 0 _ rfl, _, F, rfl, he⟩
/-- A content of one's own is stored. -/
theorem Om.putHold {L M : Nat} {w W : World} {g o : Nat} {x y : Hold} {F G : List Nat} {v : Value} (h : Om L w g o x F) (he : Ext w W) (hL : L ≤ M) (hM : w.heap.size ≤ M) (hy : GT.enc W [v] y G) (hG : Own M W G) :
  Chg g o 1 F w (W.setCell ⟨g, o, none⟩ v) ∧ Om L (W.setCell ⟨g, o, none⟩ v) g o y G ∧ ∀ k ∈ G, w.heap.size ≤ k := by
 obtain ⟨hlt, hLg, hgF, _⟩ := h.bk
 obtain ⟨u, hc, _⟩ := h.openH
 have hgG : g ∉ G := fun hm => by have := (hG.2 g hm).1; omega
 refine ⟨(Chg.ofExt he hlt).set ⟨Nat.le_refl _, by omega⟩ v, ⟨[v], GT.keep hy (fun k hk => heap_set_ne (fun e => hgG (by have e : k = g := e; rw [← e]; exact hk))), fun j u hj => ?_, List.nodup_cons.2 ⟨hgG, hG.1⟩, fun k hk => ?_⟩, fun k hk => Nat.le_trans hM (hG.2 k hk).1⟩
 ·match j, hj with
  | 0, hj => cases hj; exact cell_set ((cell_ext he hlt).trans hc)
 ·rcases List.mem_cons.1 hk with rfl | hk
  ·exact ⟨hLg, (h.own0.ext he).set _ _⟩
  ·exact ⟨Nat.le_trans hL (hG.2 k hk).1, (hG.2 k hk).2.set _ _⟩
end Sk
