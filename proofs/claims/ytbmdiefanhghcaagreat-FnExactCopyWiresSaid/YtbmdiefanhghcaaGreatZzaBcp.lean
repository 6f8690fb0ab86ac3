/- Contracts of functions of the given program, each under the condition that it states. -/
import Derived.Test.YtbmdiefanhghcaaGreatChecked
import Derived.Deep.CutBlock
import Derived.Deep.CutRange
import Derived.Test.YtbmdiefanhghcaaGreatZyBdT
namespace Sk
open Go Go.Proofs Go.RowKit
set_option maxHeartbeats 4000000
set_option maxRecDepth 100000
set_option linter.unusedVariables false
set_option linter.unusedSimpArgs false
theorem impl_copyOf_Board (v : Value) (x : Board) (w : World) (h : Rv w v x) (hn : ∀ m ∈ x.Boxes, GT.tot m ≤ 1048576) (hb : x.Boxes.length ≤ 1000) (hw : x.Wires.length ≤ 1000) :
  Calls Tryz.prog 65 #[v] w fun e w' => ∃ v', e = .returned v' ∧ Ov w.heap.size w' v' x ∧ Ext w w' := by
 obtain ⟨a0, c0, a1, c1, rfl, h0, l0, h1, l1⟩ := h.openBoard
 clear h
 have HN := zh hn
 obtain ⟨H0, sP0⟩ := h0.out
 obtain ⟨H1, sP1⟩ := h1.out
 replace sP0 := zh sP0; replace sP1 := zh sP1
 clear hn
 go_enter Tryz.func65, Tryz.ntmps65
 go_upto_region 1 with (fail)
 refine abs_world (fun W => Ext w W ∧ Bk W w.heap.size [.slice a0 x.Boxes.length c0, .slice a1 x.Wires.length c1] 68 ∧ Bk W (w.heap.size + 1) [.slice none 0 0, .slice none 0 0] 68) ⟨((Ext.refl _).alloc _).alloc _, (Bk.new _ _ _).ext ((Ext.refl _).alloc _), Bk.new1 _ _ _ _⟩ ?_
 rintro w0 ⟨E, KA, KB⟩
 have ltA := KA.lt
 have ltB := KB.lt
 have hs0 := E.sz
 replace E := zh E; replace KA := zh KA; replace KB := zh KB
 obtain ⟨f0, f1⟩ := Bk.k2 KA.out
 refine wp_region_tab rfl 8 [(6, [6]), (7, [7]), (8, [8]), (9, [9]), (10, [10]), (11, [11]), (12, [12, 8, 11]), (3, [3])]
  (fun i vs u F => match i, vs with
   | 0, [y] => y = .pointer (some ⟨w.heap.size, 0, none⟩)
   | 1, [y] => y = .slice a0 x.Boxes.length c0
   | 2, [y] => Oq w0.heap.size u y x.Boxes F w.heap.size
   | 3, [y] => y = .pointer (some ⟨w.heap.size, 1, none⟩)
   | 4, [y] => y = .slice a1 x.Wires.length c1
   | 5, [y] => ∃ p q, y = .slice p x.Wires.length q ∧ Sl u y x.Wires F
   | 6, [y, z, z1] => y = .agg #[z, z1]
   | 7, [y] => ∃ B, y = .pointer (some ⟨B, 0, none⟩) ∧ F = [B] ∧ Bk u B [.slice none 0 0, .slice none 0 0] 68
   | _, _ => False) (by decide +kernel) ?_ ?_
 ·intro i hi o ho U u F hE hd hap
  have g0 := (cell_ext hE ltA).trans f0
  have g1 := (cell_ext hE ltA).trans f1
  rcases (by omega : i = 0 ∨ i = 1 ∨ i = 2 ∨ i = 3 ∨ i = 4 ∨ i = 5 ∨ i = 6 ∨ i = 7) with rfl | rfl | rfl | rfl | rfl | rfl | rfl | rfl
  ·cases ho
   simp only [fr]
   intro K hK
   go_wp2
   exact hK _ [] _ (Ext.refl u) (fun _ _ => rfl) (Own.nil _ _)
  ·cases ho
   simp only [fr]
   obtain ⟨⟨d0, -⟩, -⟩ := fa [0] (by decide +kernel) hd
   simp only [fu] at d0
   try simp only [d0]
   clear d0
   intro K hK
   go_wp2
   exact hK _ [] _ (Ext.refl u) (fun _ _ => rfl) (Own.nil _ _)
  ·cases ho
   simp only [fr]
   obtain ⟨⟨d0, -⟩, ⟨d1, -⟩, -⟩ := fa [0, 1] (by decide +kernel) hd
   simp only [fu] at d0 d1
   try simp only [d0, d1]
   intro K hK
   go_wp2_with (go_at_call 123; refine (impl_clone_Machine _ _ _ _ (sP0.out.ext (E.out.tr hE)) (by omega)).mono ?_; rintro e w' ⟨v', F', rfl, ho', hF', _, ex1⟩; obtain ⟨F2, s2, ow2⟩ := ho'.oq (fun b hb => sP0.out.inh b (hF' b hb)))
   exact hK _ F2 _ ex1 (fun _ h => (s2.mono hE.sz).ext h) ow2
  ·cases ho
   simp only [fr]
   intro K hK
   go_wp2
   exact hK _ [] _ (Ext.refl u) (fun _ _ => rfl) (Own.nil _ _)
  ·cases ho
   simp only [fr]
   obtain ⟨⟨d3, -⟩, -⟩ := fa [3] (by decide +kernel) hd
   simp only [fu] at d3
   try simp only [d3]
   clear d3
   intro K hK
   go_wp2
   exact hK _ [] _ (Ext.refl u) (fun _ _ => rfl) (Own.nil _ _)
  ·cases ho
   simp only [fr]
   obtain ⟨⟨d0, -⟩, ⟨d1, -⟩, ⟨d2, o2⟩, ⟨d3, -⟩, ⟨d4, -⟩, -⟩ := fa [0, 1, 2, 3, 4] (by decide +kernel) hd
   simp only [fu] at d0 d1 d2 d3 d4
   try simp only [d0, d1, d3, d4]
   intro K hK
   go_wp2_with (go_at_call 124; refine (impl_clone_Wire _ _ _ _ (sP1.out.ext (E.out.tr hE)) (by omega)).mono ?_; rintro e w' ⟨v', F', rfl, ho', hF', _, ex1⟩; obtain ⟨F2, s2, ow2⟩ := ho'.flat; obtain ⟨p2, q2, rfl, _⟩ := id s2)
   exact hK _ F2 _ ex1 (fun _ h => ⟨_, _, rfl, s2.ext h⟩) ow2
  ·cases ho
   simp only [fr]
   obtain ⟨⟨d0, -⟩, ⟨d1, -⟩, ⟨d2, o2⟩, ⟨d3, -⟩, ⟨d4, -⟩, ⟨d5, o5⟩, -⟩ := fa [0, 1, 2, 3, 4, 5] (by decide +kernel) hd
   simp only [fu] at d0 d1 d2 d3 d4 d5
   try simp only [d0, d1, d3, d4]
   obtain ⟨p2, q2, e2, _⟩ := d2.form
   obtain ⟨p5, q5, e5, _⟩ := d5
   simp only [e2, e5]
   intro K hK
   go_wp2
   exact hK _ [] _ (Ext.refl u) (fun _ _ => by show Value.agg _ = Value.agg #[U 8, U 11]; rw [e2, e5]) (Own.nil _ _)
  ·cases ho
   simp only [fr]
   intro K hK
   go_wp2
   have b1 := Bk.new u [.slice none 0 0, .slice none 0 0] 68
   exact hK _ [u.heap.size] _ ((Ext.refl u).alloc _) (fun _ h => ⟨_, rfl, rfl, b1.ext h⟩) (b1.own (Nat.le_refl _))
 intro o ho U u F hE hφ hap
 cases ho
 simp only [fr]
 obtain ⟨⟨d0, -⟩, ⟨d1, -⟩, ⟨d2, o2⟩, ⟨d3, -⟩, ⟨d4, -⟩, ⟨d5, o5⟩, ⟨d6, -⟩, ⟨d7, o7⟩, -⟩ := fb [0, 1, 2, 3, 4, 5, 6, 7] (by decide +kernel) hφ
 simp only [fu] at d0 d1 d2 d3 d4 d5 d6 d7
 try simp only [d0, d1, d3, d4, d6]
 obtain ⟨B, d7, k7, b7⟩ := d7
 obtain ⟨p1, q1, e5, s5⟩ := d5
 have aWM := hap 5 2 (by omega) (by omega) (by omega)
 have aWB := hap 5 7 (by omega) (by omega) (by omega)
 have aMB := hap 2 7 (by omega) (by omega) (by omega)
 generalize F 2 = G at *
 generalize F 5 = FW at *
 rw [k7] at o7 aWB aMB
 obtain ⟨ga, e2, dk⟩ := d2.dk (by omega) 0
 rw [e5] at s5
 clear k7 hap hφ d2
 rw [e2, e5] at d6
 simp only [d7, d6]
 obtain ⟨b60, b61⟩ := Bk.k2 b7
 have b6f := b7.fz
 have lB : w0.heap.size ≤ B := (o7.2 B (by simp)).1
 have ltB2 := b7.lt
 have nBW : B ∉ FW := aWB.one
 have nBM : B ∉ G := aMB.one
 have gl : Hid (∀ y ∈ G, w0.heap.size ≤ y ∧ y < u.heap.size) := zh fun y hy => ⟨(o2.2 y hy).1, o2.lt hy⟩
 have HM : ∀ x0 x1, Mx [B] u ((u.setCell ⟨B, 0, none⟩ x0).setCell ⟨B, 1, none⟩ x1) := fun x0 x1 => Mx.ofMo (((Mo.refl [B] u).set (by simp) _).set (by simp) _)
 have hSW : Sl ((u.setCell ⟨B, 0, none⟩ (.slice ga x.Boxes.length x.Boxes.length)).setCell ⟨B, 1, none⟩ (.slice p1 x.Wires.length q1)) (.slice p1 x.Wires.length q1) x.Wires FW := (s5.set (p := ⟨B, 0, none⟩) nBW _).set (p := ⟨B, 1, none⟩) nBW _
 go_upto_region 2 with (fail)
 refine abs_world (fun W => Ext w W ∧ B < W.heap.size ∧ u.heap.size ≤ W.heap.size ∧ Bk W B [.slice ga x.Boxes.length x.Boxes.length, .slice p1 x.Wires.length q1] 68 ∧ Sl W (.slice p1 x.Wires.length q1) x.Wires FW ∧ Dk W.heap.size w.heap.size W ga G x.Boxes 0 ∧ Own w0.heap.size W FW ∧ Bk W w.heap.size [.slice a0 x.Boxes.length c0, .slice a1 x.Wires.length c1] 68 ∧ Bk W (w.heap.size + 1) [.slice none 0 0, .slice none 0 0] 68) ?_ ?_
 ·exact ⟨(HM _ _).ext (E.out.tr hE) (fun y hy => by rw [List.mem_singleton] at hy; omega), by simpa using ltB2, by simp, b7.puts [.slice ga x.Boxes.length x.Boxes.length, .slice p1 x.Wires.length q1] rfl, hSW, (dk.base (L' := u.heap.size)).mx (HM _ _) aMB (fun y hy => by rw [List.mem_singleton] at hy; omega) |>.base, Own.mono ((HM _ _).owns o5) (by omega), (HM _ _).bk (KA.out.ext hE) (by simp; omega), (HM _ _).bk (KB.out.ext hE) (by simp; omega)⟩
 rintro W3 ⟨E3, lt3, lW3, BB3, SW3, D3, OW3, KA3, KB3⟩
 replace BB3 := zh BB3; replace KB3 := zh KB3; replace SW3 := zh SW3; replace OW3 := zh OW3; replace E3 := zh E3; replace D3 := zh D3
 have B3 := KA3.cell (j := 0) rfl
 have ltA3 := KA3.lt
 clear hE b7 o7 o2 o5 aWB aMB f0 f1 KA KB E b60 b61 b6f s5 ltB2 HM hSW dk e2 e5 d0 d1 d3 d4 d6 d7 KA3
 go_wp2
 go_loopw [16] (fun i wr => ∃ (k : Nat), k ≤ x.Boxes.length ∧ i = .int .i64 k ∧ Mx G W3 wr ∧ Dk W3.heap.size w.heap.size wr ga G x.Boxes k) (fun i _ => x.Boxes.length - (intOf i).toNat)
 case atStart => exact ⟨0, Nat.zero_le _, rfl, Mx.ofExt (Ext.refl _), D3.out⟩
 case round =>
  obtain ⟨k, hk, rfl, hch, hdc⟩ := hrel
  have HC := zh hch
  have HD := zh hdc
  clear hch hdc
  have lWr : W3.heap.size ≤ wr.heap.size := HC.out.2.1
  have EW := zh (HC.out.ext E3.out (fun y hy => by have := gl.out y hy; omega))
  have BA := HC.out.bk BB3.out nBM
  have ltB3 := BA.lt
  have bj := BA.cell (j := 0) rfl
  have bj1 := BA.cell (j := 1) rfl
  replace BA := zh BA
  by_cases hkt : k < x.Boxes.length
  ·obtain ⟨b, o, y, aa0, cc0, aa1, cc1, aa2, cc2, aa3, cc3, aa4, cc4, aa5, cc5, rfl, hb9, hx, j0, j1, j2, j3, j4, j5, j6, jr6, -, -, -, -, -, -, -, -, -, -, -, -, hv⟩ := (h0.out.ext EW.out).atMachine k hkt
   have hyt := HN.out y (List.mem_of_getElem? hx.out)
   obtain ⟨g, rfl, rfl, hg1, hdc⟩ := HD.out.get hx.out
   replace HD := zh hdc
   have hgz := hdc.fz
   clear hdc
   have hgW := hgz.lt
   go_upto_region 5 with (fail)
   refine abs_world (fun W => Ext wr W ∧ Bk W wr.heap.size [.slice aa0 y.Plan.Parts.length cc0, .slice aa1 y.Plan.Channels.length cc1, .slice aa2 y.Plan.Slots.length cc2, .slice aa3 y.Programs.length cc3, .slice aa4 y.Cores.length cc4, .slice aa5 y.Holds.length cc5, .int .i64 y.Tick] 46) ⟨(Ext.refl _).alloc _, Bk.new _ _ _⟩ ?_
   rintro W5 ⟨e5, k5⟩
   have lt5 := k5.lt
   have E5 := zh e5
   obtain ⟨z0, z1, z2, z3, z4, z5, z6⟩ := Bk.k7 k5
   have bj5 := (cell_ext e5 ltB3).trans bj
   have ltB5 : B < W5.heap.size := Nat.lt_of_lt_of_le ltB3 e5.sz
   have hv5 := zh (hv.out.ext e5)
   clear e5 k5 j0 j1 j2 j3 j4 j5 j6 hv
   refine wp_region_tab rfl 6 [(21, [21]), (22, [22]), (23, [23]), (24, [24]), (25, [25]), (26, [26])]
    (fun i vs u F => match i, vs with
     | 0, [z] => z = .pointer (some ⟨B, 0, none⟩)
     | 1, [z] => z = .slice (some ⟨g, 0, none⟩) x.Boxes.length x.Boxes.length
     | 2, [z] => z = .int .i64 k
     | 3, [z] => z = .agg #[.slice aa0 y.Plan.Parts.length cc0, .slice aa1 y.Plan.Channels.length cc1, .slice aa2 y.Plan.Slots.length cc2, .slice aa3 y.Programs.length cc3, .slice aa4 y.Cores.length cc4, .slice aa5 y.Holds.length cc5, .int .i64 y.Tick]
     | 4, [z] => ∃ t0 u0 t1 u1 t2 u2 t3 u3 t4 u4 t5 u5, z = .agg #[.slice t0 y.Plan.Parts.length u0, .slice t1 y.Plan.Channels.length u1, .slice t2 y.Plan.Slots.length u2, .slice t3 y.Programs.length u3, .slice t4 y.Cores.length u4, .slice t5 y.Holds.length u5, .int .i64 y.Tick] ∧ GT.enc u [.slice t0 y.Plan.Parts.length u0, .slice t1 y.Plan.Channels.length u1, .slice t2 y.Plan.Slots.length u2, .slice t3 y.Programs.length u3, .slice t4 y.Cores.length u4, .slice t5 y.Holds.length u5, .int .i64 y.Tick] y F
     | 5, [z] => z = .pointer (some ⟨g, k * 7, none⟩)
     | _, _ => False) (by decide +kernel) ?_ ?_
   ·intro i hi oo ho U u F hE hd hap
    have e0 := (cell_ext hE ltB5).trans bj5
    have i0 := (cell_ext hE lt5).trans z0
    have i1 := (cell_ext hE lt5).trans z1
    have i2 := (cell_ext hE lt5).trans z2
    have i3 := (cell_ext hE lt5).trans z3
    have i4 := (cell_ext hE lt5).trans z4
    have i5 := (cell_ext hE lt5).trans z5
    have i6 := (cell_ext hE lt5).trans z6
    rcases (by omega : i = 0 ∨ i = 1 ∨ i = 2 ∨ i = 3 ∨ i = 4 ∨ i = 5) with rfl | rfl | rfl | rfl | rfl | rfl
    ·cases ho
     simp only [fr]
     intro K hK
     go_wp2
     exact hK _ [] _ (Ext.refl u) (fun _ _ => rfl) (Own.nil _ _)
    ·cases ho
     simp only [fr]
     obtain ⟨⟨d0, -⟩, -⟩ := fa [0] (by decide +kernel) hd
     simp only [fu] at d0
     try simp only [d0]
     clear d0
     intro K hK
     go_wp2
     exact hK _ [] _ (Ext.refl u) (fun _ _ => rfl) (Own.nil _ _)
    ·cases ho
     simp only [fr]
     intro K hK
     go_wp2
     exact hK _ [] _ (Ext.refl u) (fun _ _ => rfl) (Own.nil _ _)
    ·cases ho
     simp only [fr]
     intro K hK
     go_wp2
     exact hK _ [] _ (Ext.refl u) (fun _ _ => rfl) (Own.nil _ _)
    ·cases ho
     simp only [fr]
     obtain ⟨⟨d3, -⟩, -⟩ := fa [3] (by decide +kernel) hd
     simp only [fu] at d3
     try simp only [d3]
     intro K hK
     go_wp2_with (go_at_call 125; refine (impl_copyOf_Machine _ y _ (hv5.out.ext hE) hyt).mono ?_; rintro e w' ⟨v9, rfl, hov, ex1⟩; obtain ⟨t0, u0, t1, u1, t2, u2, t3, u3, t4, u4, t5, u5, F2, rfl, en2, ow2⟩ := hov.openE)
     exact hK _ F2 _ ex1 (fun _ h => ⟨_, _, _, _, _, _, _, _, _, _, _, _, rfl, GT.ext en2 h⟩) ow2
    ·cases ho
     simp only [fr]
     obtain ⟨⟨d0, -⟩, ⟨d1, -⟩, ⟨d2, -⟩, ⟨d3, -⟩, ⟨d4, -⟩, -⟩ := fa [0, 1, 2, 3, 4] (by decide +kernel) hd
     simp only [fu] at d0 d1 d2 d3 d4
     clear d4
     try simp only [d0, d1, d2, d3]
     clear d0 d1 d2 d3
     intro K hK
     go_wp2
     exact hK _ [] _ (Ext.refl u) (fun _ _ => rfl) (Own.nil _ _)
   ·intro oo ho U u2 F hE hφ hap
    cases ho
    simp only [fr]
    obtain ⟨⟨d0, -⟩, ⟨d1, -⟩, ⟨d2, -⟩, ⟨d3, -⟩, ⟨d4, o4⟩, ⟨d5, -⟩, -⟩ := fb [0, 1, 2, 3, 4, 5] (by decide +kernel) hφ
    simp only [fu] at d0 d1 d2 d3 d4 d5
    try simp only [d0, d1, d2, d3, d5]
    obtain ⟨t0, u0, t1, u1, t2, u2', t3, u3, t4, u4, t5, u5, e4, n4⟩ := d4
    obtain ⟨cs9, F9, he9, ha9, hF9⟩ := ((HD.out.ext E5.out).ext hE).elem hx.out
    have hl9 : cs9.length = 7 := GT.len he9
    obtain ⟨_, _, _, _, _, _, _, _, _, _, _, _, rfl, _⟩ := id he9
    have c0 := ha9 0 _ rfl
    have c1 := ha9 1 _ rfl
    have c2 := ha9 2 _ rfl
    have c3 := ha9 3 _ rfl
    have c4 := ha9 4 _ rfl
    have c5 := ha9 5 _ rfl
    have c6 := ha9 6 _ rfl
    simp only [GT.sz, Nat.add_zero] at c0 c1 c2 c3 c4 c5 c6
    have f9 : ∀ j, u2.frozen? ⟨g, j, none⟩ = false := by
     obtain ⟨cs, T, hb⟩ := (hgz.ext E5.out).ext hE
     exact hb.fz
    have hgn : g ∉ F 4 := fun hm => by have := (o4.2 g hm).1; have := E5.out.sz; omega
    have hgW5 : g < W5.heap.size := Nat.lt_of_lt_of_le hgW E5.out.sz
    have hin : At (putCells u2 g (k * 7) [.slice t0 y.Plan.Parts.length u0, .slice t1 y.Plan.Channels.length u1, .slice t2 y.Plan.Slots.length u2', .slice t3 y.Programs.length u3, .slice t4 y.Cores.length u4, .slice t5 y.Holds.length u5, .int .i64 y.Tick]) g (k * 7) [.slice t0 y.Plan.Parts.length u0, .slice t1 y.Plan.Channels.length u1, .slice t2 y.Plan.Slots.length u2', .slice t3 y.Programs.length u3, .slice t4 y.Cores.length u4, .slice t5 y.Holds.length u5, .int .i64 y.Tick] := putCells_in (fun j hj => ⟨_, ha9 j _ (List.getElem?_eq_getElem (by rw [hl9]; simpa using hj))⟩)
    have hen := enc_puts (c := g) (o := k * 7) (ds := [.slice t0 y.Plan.Parts.length u0, .slice t1 y.Plan.Channels.length u1, .slice t2 y.Plan.Slots.length u2', .slice t3 y.Programs.length u3, .slice t4 y.Cores.length u4, .slice t5 y.Holds.length u5, .int .i64 y.Tick]) n4 hgn
    have how := o4.puts (b := g) (o := k * 7) [.slice t0 y.Plan.Parts.length u0, .slice t1 y.Plan.Channels.length u1, .slice t2 y.Plan.Slots.length u2', .slice t3 y.Programs.length u3, .slice t4 y.Cores.length u4, .slice t5 y.Holds.length u5, .int .i64 y.Tick]
    have hCg : Chg g (k * 7) 7 [] wr (putCells u2 g (k * 7) [.slice t0 y.Plan.Parts.length u0, .slice t1 y.Plan.Channels.length u1, .slice t2 y.Plan.Slots.length u2', .slice t3 y.Programs.length u3, .slice t4 y.Cores.length u4, .slice t5 y.Holds.length u5, .int .i64 y.Tick]) := Chg.putsO [.slice t0 y.Plan.Parts.length u0, .slice t1 y.Plan.Channels.length u1, .slice t2 y.Plan.Slots.length u2', .slice t3 y.Programs.length u3, .slice t4 y.Cores.length u4, .slice t5 y.Holds.length u5, .int .i64 y.Tick] (Chg.ofExt (E5.out.tr hE) hgW) (Nat.le_refl _) (by simp)
    have hD := zh (HD.out.step (by omega) lWr hx.out hCg hen hin (how.mono (E5.out.sz)))
    have HCg := zh hCg
    clear d0 d1 d2 d3 d5 hφ hap ha9 he9 n4 o4 hin hen how hCg
    simp only [e4]
    clear e4
    go_wp2
    exact ⟨⟨k + 1, by omega, by go_num, HC.out.tr (Mx.ofChg HCg.out), .inr ⟨g, rfl, rfl, hg1, hD.out⟩⟩, by simp [intOf]; omega⟩
  ·obtain rfl : k = x.Boxes.length := by omega
   obtain ⟨F3, S3, O3, Z3⟩ := HD.out.fin (L' := w0.heap.size) rfl (fun y hy => (gl.out y hy).1) (by omega) (by unfold maxLen; omega)
   have SWx := HC.out.sl SW3.out aWM
   have KBx := HC.out.bk KB3.out (fun hx => by have := gl.out _ hx; omega)
   obtain ⟨z0, z1⟩ := Bk.k2 KBx
   have zf := KBx.fz
   have ltZ := KBx.lt
   have OX : Own w0.heap.size wr (F3 ++ FW) := O3.join (HC.out.owns OW3.out) (fun y h2 h1 => by
    rcases Z3 y h2 with h3 | h3
    ·exact aWM y h1 h3
    ·have := OW3.out.lt h1; omega)
   have hZ : w.heap.size + 1 ∉ F3 ++ FW := fun hm => by have := (OX.2 _ hm).1; omega
   have EN := zh (encBoard S3 SWx)
   clear S3 SWx O3 KBx
   go_wp2
   refine bodyPost_ret (v := .agg #[.slice ga x.Boxes.length x.Boxes.length, .slice p1 x.Wires.length q1]) (by simp [results, Tryz.results65, go_sem, z0, z1]) rfl ⟨_, rfl, ⟨_, _, rfl, enc_puts (c := w.heap.size + 1) (o := 0) (ds := [.slice ga x.Boxes.length x.Boxes.length, .slice p1 x.Wires.length q1]) EN.out hZ, ((OX.mono (by omega)).puts (b := w.heap.size + 1) (o := 0) [.slice ga x.Boxes.length x.Boxes.length, .slice p1 x.Wires.length q1])⟩, ?_⟩
   exact Ext.puts (b := w.heap.size + 1) (o := 0) (by omega) [.slice ga x.Boxes.length x.Boxes.length, .slice p1 x.Wires.length q1] EW.out
end Sk
