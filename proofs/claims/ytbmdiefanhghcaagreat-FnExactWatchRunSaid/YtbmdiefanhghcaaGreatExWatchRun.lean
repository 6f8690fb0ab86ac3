/- Contracts of functions of the given program, each under the condition that it states. -/
import Derived.Test.YtbmdiefanhghcaaGreatChecked
import Derived.Deep.CutBlock
import Derived.Test.YtbmdiefanhghcaaGreatTot
import Derived.Test.YtbmdiefanhghcaaGreatZrWrn
import Derived.Test.YtbmdiefanhghcaaGreatZuWct
namespace Sk
open Go Go.Proofs Go.RowKit
set_option maxHeartbeats 1600000
set_option maxRecDepth 100000
set_option linter.unusedVariables false
theorem lawExactWatchRun (v0 : Value) (x : Watch) (v1 : Value) (t : List Int) (T : Int) (w : World) (h0 : Rv w v0 x) (h1 : Rs w v1 t) (rT : rng T) :
  Calls Tryz.prog 3 #[v0, v1, .int .i64 T] w fun e w' => e = .returned (.bool true) ∧ Ext w w' := by
 have H0 := zh h0
 obtain ⟨a0_0, c0_0, a0_1, c0_1, a0_2, c0_2, a0_3, c0_3, a0_4, c0_4, a0_5, c0_5, a0_7, c0_7, rfl, ra0_6, ha0_0, la0_0, ha0_1, la0_1, ha0_2, la0_2, ha0_3, la0_3, ha0_4, la0_4, ha0_5, la0_5, ha0_7, la0_7⟩ := h0.openWatch
 clear h0 ha0_0 ha0_1 ha0_2 ha0_3 ha0_4 ha0_5 ha0_7
 have H1 := zh h1
 obtain ⟨a1, c1, rfl, la1⟩ := h1.form
 clear h1
 have RRT := zh rT
 obtain ⟨rT1, rT2⟩ := rT
 by_cases hn1 : t.length ≤ 1048576
 rotate_left
 ·go_enter Tryz.func3, Tryz.ntmps3
  go_wp2
  go_ret
  exact ⟨rfl, (Ext.refl w).alloc _⟩
 go_enter Tryz.func3, Tryz.ntmps3
 go_upto_region 4 with (fail)
 refine abs_world (fun W => Ext w W ∧ Bk W (w.heap.size) [.slice a0_0 x.Box.Plan.Parts.length c0_0, .slice a0_1 x.Box.Plan.Channels.length c0_1, .slice a0_2 x.Box.Plan.Slots.length c0_2, .slice a0_3 x.Box.Programs.length c0_3, .slice a0_4 x.Box.Cores.length c0_4, .slice a0_5 x.Box.Holds.length c0_5, .int .i64 x.Box.Tick, .slice a0_7 x.States.length c0_7] 34) ⟨(Ext.refl w).alloc _, (Bk.new _ _ _)⟩ ?_
 rintro W0 ⟨E, KA0⟩
 replace E := zh E; replace KA0 := zh KA0
 have S1 : Hid (GT.tot t ≤ 1048576) := zh (by rw [tot_ints]; exact hn1)
 obtain ⟨fA0_0, fA0_1, fA0_2, fA0_3, fA0_4, fA0_5, fA0_6, fA0_7⟩ := Bk.k8 KA0.out
 go_upto_region 7 with (go_at_call 8; refine (szWatch _ _ _ _ (H0.out.ext E.out) (by omega) (by omega)).mono ?_; rintro e u1 ⟨⟨s0, rfl, hs0a, hs0b, hs0c⟩, he⟩; have HR0 := zh hs0c; have X := zh he; clear hs0c he)
 ·go_ret
  exact ⟨rfl, E.out.tr X.out⟩
 have S0 : Hid (GT.tot x ≤ 1048576) := zh (by have := HR0.out (by omega); omega)
 clear HR0 fA0_0 fA0_1 fA0_2 fA0_3 fA0_4 fA0_5 fA0_6 fA0_7
 replace E := zh (E.out.tr X.out); replace KA0 := zh (KA0.out.ext X.out)
 clear X
 obtain ⟨fA0_0, fA0_1, fA0_2, fA0_3, fA0_4, fA0_5, fA0_6, fA0_7⟩ := Bk.k8 KA0.out
 go_upto_region 8 with (first
  | (go_at_call 11; have _t := X0; refine (toIntS _ t _ (H1.out.ext (E.out.tr X0.out)) S1.out).mono ?_; rintro e u3 ⟨v1, rfl, ho, he⟩; have HC1_1 := zh ho.rs; have X1 := zh (X0.out.tr he); have HC0_1 := zh (HC0_0.out.ext he); obtain ⟨sp1, sq1, rfl, _⟩ := ho.form; clear ho he)
  | (go_at_call 10; refine (toWatch _ x _ (H0.out.ext E.out) S0.out).mono ?_; rintro e u2 ⟨v1, rfl, ho, he⟩; have HC0_0 := zh ho.rv; have X0 := zh (he); obtain ⟨sp0_0, sq0_0, sp0_1, sq0_1, sp0_2, sq0_2, sp0_3, sq0_3, sp0_4, sq0_4, sp0_5, sq0_5, sp0_7, sq0_7, rfl, _⟩ := ho.rv.openWatch; clear ho he)
  | (go_at_call 9; refine (spec_WatchRun _ _ x t T _ HC0_1.out HC1_1.out RRT.out).mono ?_; rintro e u4 ⟨v0, rfl, ho0, he⟩; have XX := zh (X1.out.tr he); have HW0 := zh ho0.rv; obtain ⟨sp0_0, sq0_0, sp0_1, sq0_1, sp0_2, sq0_2, sp0_3, sq0_3, sp0_4, sq0_4, sp0_5, sq0_5, sp0_7, sq0_7, rfl, _⟩ := ho0.rv.openWatch; clear ho0 he))
 clear fA0_0 fA0_1 fA0_2 fA0_3 fA0_4 fA0_5 fA0_6 fA0_7
 refine abs_world (fun W => Ext u4 W ∧ Bk W u4.heap.size [.slice sp0_0 (M.watched x t T 400).Box.Plan.Parts.length sq0_0, .slice sp0_1 (M.watched x t T 400).Box.Plan.Channels.length sq0_1, .slice sp0_2 (M.watched x t T 400).Box.Plan.Slots.length sq0_2, .slice sp0_3 (M.watched x t T 400).Box.Programs.length sq0_3, .slice sp0_4 (M.watched x t T 400).Box.Cores.length sq0_4, .slice sp0_5 (M.watched x t T 400).Box.Holds.length sq0_5, .int .i64 (M.watched x t T 400).Box.Tick, .slice sp0_7 (M.watched x t T 400).States.length sq0_7] 49) ⟨(Ext.refl _).alloc _, Bk.new _ _ _⟩ ?_
 rintro u5 ⟨y, KS0⟩
 replace XX := zh (XX.out.tr y); replace KS0 := zh KS0; have YY := zh y; clear y
 replace E := zh (E.out.tr XX.out); replace KA0 := zh (KA0.out.ext XX.out)
 replace HW0 := zh (HW0.out.ext YY.out)
 clear YY
 have WA := zh E.out
 have KA00 := zh KA0.out
 have KS00 := zh KS0.out
 have EA := zh (Ext.refl u5)
 clear XX X0 X1 HC0_0 HC0_1 HC1_1
 obtain ⟨fA0_0, fA0_1, fA0_2, fA0_3, fA0_4, fA0_5, fA0_6, fA0_7⟩ := Bk.k8 KA0.out
 go_upto_region 9 with (go_at_call 10; refine (toWatch _ x _ (H0.out.ext E.out) S0.out).mono ?_; rintro e u6 ⟨v1, rfl, ho, he⟩; have X := zh he; obtain ⟨p0_0, q0_0, p0_1, q0_1, p0_2, q0_2, p0_3, q0_3, p0_4, q0_4, p0_5, q0_5, p0_7, q0_7, rfl, _⟩ := ho.rv.openWatch; have OX := zh ho; clear ho he)
 clear fA0_0 fA0_1 fA0_2 fA0_3 fA0_4 fA0_5 fA0_6 fA0_7
 obtain ⟨csX, F0, hcX, encX, ownX⟩ := OX.out
 obtain rfl : csX = [.slice p0_0 x.Box.Plan.Parts.length q0_0, .slice p0_1 x.Box.Plan.Channels.length q0_1, .slice p0_2 x.Box.Plan.Slots.length q0_2, .slice p0_3 x.Box.Programs.length q0_3, .slice p0_4 x.Box.Cores.length q0_4, .slice p0_5 x.Box.Holds.length q0_5, .int .i64 x.Box.Tick, .slice p0_7 x.States.length q0_7] := by have := agg_inj hcX; simpa using this.symm
 have ltF0 : ∀ k ∈ F0, k < u6.heap.size := fun k hk => ownX.lt hk
 have loF0 : ∀ k ∈ F0, u5.heap.size ≤ k := fun k hk => Nat.le_trans EA.out.sz (ownX.2 k hk).1
 have notin0_0 : u6.heap.size ∉ F0 := fun hx => Nat.lt_irrefl _ (ownX.lt hx)
 have X0 := zh encX; have OX0 := zh ownX; clear encX ownX hcX OX
 refine abs_world (fun W => Ext u6 W ∧ Bk W u6.heap.size [.slice p0_0 x.Box.Plan.Parts.length q0_0, .slice p0_1 x.Box.Plan.Channels.length q0_1, .slice p0_2 x.Box.Plan.Slots.length q0_2, .slice p0_3 x.Box.Programs.length q0_3, .slice p0_4 x.Box.Cores.length q0_4, .slice p0_5 x.Box.Holds.length q0_5, .int .i64 x.Box.Tick, .slice p0_7 x.States.length q0_7] 49) ⟨(Ext.refl _).alloc _, Bk.new _ _ _⟩ ?_
 rintro u7 ⟨y, KX0⟩
 replace X := zh (X.out.tr y); replace KX0 := zh KX0; replace X0 := zh (GT.ext X0.out y); replace OX0 := zh (OX0.out.ext y); clear y
 replace E := zh (E.out.tr X.out); replace KA0 := zh (KA0.out.ext X.out); replace KS0 := zh (KS0.out.ext X.out); replace EA := zh (EA.out.tr X.out)
 clear X
 go_upto_region 10 with (go_at_call 11; refine (toIntS _ t _ (H1.out.ext E.out) S1.out).mono ?_; rintro e u8 ⟨v1, rfl, ho, he⟩; have X := zh he; obtain ⟨p1, q1, rfl, _⟩ := ho.form; have OX := zh ho; clear ho he)
 obtain ⟨F1, slX, ownX⟩ := OX.out
 have ltF1 : ∀ k ∈ F1, k < u8.heap.size := fun k hk => ownX.lt hk
 have loF1 : ∀ k ∈ F1, u5.heap.size ≤ k := fun k hk => Nat.le_trans EA.out.sz (ownX.2 k hk).1
 have notin0_1 : u6.heap.size ∉ F1 := fun hx => by have h1 := (ownX.2 _ hx).1; have h2 := KX0.out.lt; omega
 have disj0_1 : ∀ y, y ∈ F0 → y ∈ F1 → False := fun y h1 h2 => by have g1 := OX0.out.lt h1; have g2 := (ownX.2 _ h2).1; omega
 have X1 := zh slX; have OX1 := zh ownX; clear slX ownX OX
 replace E := zh (E.out.tr X.out); replace KA0 := zh (KA0.out.ext X.out); replace KS0 := zh (KS0.out.ext X.out); replace EA := zh (EA.out.tr X.out); replace KX0 := zh (KX0.out.ext X.out)
 replace X0 := zh (GT.ext X0.out X.out); replace OX0 := zh (OX0.out.ext X.out)
 clear X
 have AB := zh EA.out
 replace ltF0 : ∀ k ∈ F0, k < u8.heap.size := fun k hk => OX0.out.lt hk
 replace ltF1 : ∀ k ∈ F1, k < u8.heap.size := fun k hk => OX1.out.lt hk
 obtain ⟨fX0_0, fX0_1, fX0_2, fX0_3, fX0_4, fX0_5, fX0_6, fX0_7⟩ := Bk.k8 KX0.out
 go_upto_region 11 with (go_at_call 12; refine (impl_WatchRun _ _ x t T _ ⟨_, _, rfl, X0.out⟩ ⟨_, X1.out⟩).mono ?_; rintro e u9 ⟨v0, rfl, ho0, he⟩; have XX := zh (he); have G0 := zh ho0; obtain ⟨gp0_0, gq0_0, gp0_1, gq0_1, gp0_2, gq0_2, gp0_3, gq0_3, gp0_4, gq0_4, gp0_5, gq0_5, gp0_7, gq0_7, rfl, _⟩ := ho0.rv.openWatch; clear ho0 he)
 clear fX0_0 fX0_1 fX0_2 fX0_3 fX0_4 fX0_5 fX0_6 fX0_7
 obtain ⟨csG, FG0, hcG, encG, ownG⟩ := G0.out
 obtain rfl : csG = [.slice gp0_0 (M.watched x t T 400).Box.Plan.Parts.length gq0_0, .slice gp0_1 (M.watched x t T 400).Box.Plan.Channels.length gq0_1, .slice gp0_2 (M.watched x t T 400).Box.Plan.Slots.length gq0_2, .slice gp0_3 (M.watched x t T 400).Box.Programs.length gq0_3, .slice gp0_4 (M.watched x t T 400).Box.Cores.length gq0_4, .slice gp0_5 (M.watched x t T 400).Box.Holds.length gq0_5, .int .i64 (M.watched x t T 400).Box.Tick, .slice gp0_7 (M.watched x t T 400).States.length gq0_7] := by have := agg_inj hcG; simpa using this.symm
 clear hcG
 replace G0 := zh encG; have OG0 := zh ownG; clear encG ownG
 have GSZ := zh (Ext.sz XX.out)
 have NIG : Hid (u9.heap.size ∉ FG0) := zh (fun hx => Nat.lt_irrefl _ (OG0.out.lt hx))
 have loG0 : ∀ k ∈ FG0, u8.heap.size ≤ k := fun k hk => (OG0.out.2 k hk).1
 refine abs_world (fun W => Ext u9 W ∧ Bk W u9.heap.size [.slice gp0_0 (M.watched x t T 400).Box.Plan.Parts.length gq0_0, .slice gp0_1 (M.watched x t T 400).Box.Plan.Channels.length gq0_1, .slice gp0_2 (M.watched x t T 400).Box.Plan.Slots.length gq0_2, .slice gp0_3 (M.watched x t T 400).Box.Programs.length gq0_3, .slice gp0_4 (M.watched x t T 400).Box.Cores.length gq0_4, .slice gp0_5 (M.watched x t T 400).Box.Holds.length gq0_5, .int .i64 (M.watched x t T 400).Box.Tick, .slice gp0_7 (M.watched x t T 400).States.length gq0_7] 49) ⟨(Ext.refl _).alloc _, Bk.new _ _ _⟩ ?_
 rintro u10 ⟨y, KG0⟩
 replace XX := zh (XX.out.tr y); replace KG0 := zh KG0; have YY := zh y; clear y
 replace G0 := zh (GT.ext G0.out YY.out); replace OG0 := zh (OG0.out.ext YY.out)
 clear YY
 replace E := zh (E.out.tr XX.out); replace KA0 := zh (KA0.out.ext XX.out); replace KS0 := zh (KS0.out.ext XX.out); replace EA := zh (EA.out.tr XX.out); replace KX0 := zh (KX0.out.ext XX.out)
 replace X0 := zh (GT.ext X0.out XX.out); replace OX0 := zh (OX0.out.ext XX.out)
 replace X1 := zh (X1.out.ext XX.out); replace OX1 := zh (OX1.out.ext XX.out)
 clear XX
 have ltb0 : u8.heap.size ≤ u9.heap.size := GSZ.out
 have notinG : u9.heap.size ∉ FG0 := NIG.out
 have hb0 := Eqb.t (rfl : ((M.watched x t T 400)) = (M.watched x t T 400))
 have ha0 := Eqb.t (rfl : x = x)
 have ha1 := Eqb.t (rfl : t = t)
 obtain ⟨fG0_0, fG0_1, fG0_2, fG0_3, fG0_4, fG0_5, fG0_6, fG0_7⟩ := Bk.k8 KG0.out
 obtain ⟨fS0_0, fS0_1, fS0_2, fS0_3, fS0_4, fS0_5, fS0_6, fS0_7⟩ := Bk.k8 KS0.out
 go_upto_region 13 with (go_at_call 13; refine (eqWatch _ _ _ _ _ ⟨_, _, rfl, G0.out⟩ (HW0.out.ext EA.out)).mono ?_; rintro e u11 ⟨rfl, he⟩; have X := zh he; clear he)
 clear fG0_0 fG0_1 fG0_2 fG0_3 fG0_4 fG0_5 fG0_6 fG0_7 fS0_0 fS0_1 fS0_2 fS0_3 fS0_4 fS0_5 fS0_6 fS0_7
 replace E := zh (E.out.tr X.out); replace KA0 := zh (KA0.out.ext X.out); replace KS0 := zh (KS0.out.ext X.out); replace EA := zh (EA.out.tr X.out); replace KX0 := zh (KX0.out.ext X.out); replace KG0 := zh (KG0.out.ext X.out)
 replace X0 := zh (GT.ext X0.out X.out); replace OX0 := zh (OX0.out.ext X.out)
 replace X1 := zh (X1.out.ext X.out); replace OX1 := zh (OX1.out.ext X.out)
 replace G0 := zh (GT.ext G0.out X.out); replace OG0 := zh (OG0.out.ext X.out)
 clear X
 obtain ⟨fX0_0, fX0_1, fX0_2, fX0_3, fX0_4, fX0_5, fX0_6, fX0_7⟩ := Bk.k8 KX0.out
 obtain ⟨fA0_0, fA0_1, fA0_2, fA0_3, fA0_4, fA0_5, fA0_6, fA0_7⟩ := Bk.k8 KA0.out
 have ltX0 := KX0.out.lt
 have ltA0 := KA0.out.lt
 go_wp2
 go_region_held3 (fun u => u.cell? ⟨u6.heap.size, 0, none⟩ = some (.slice p0_0 x.Box.Plan.Parts.length q0_0) ∧ u.cell? ⟨u6.heap.size, 1, none⟩ = some (.slice p0_1 x.Box.Plan.Channels.length q0_1) ∧ u.cell? ⟨u6.heap.size, 2, none⟩ = some (.slice p0_2 x.Box.Plan.Slots.length q0_2) ∧ u.cell? ⟨u6.heap.size, 3, none⟩ = some (.slice p0_3 x.Box.Programs.length q0_3) ∧ u.cell? ⟨u6.heap.size, 4, none⟩ = some (.slice p0_4 x.Box.Cores.length q0_4) ∧ u.cell? ⟨u6.heap.size, 5, none⟩ = some (.slice p0_5 x.Box.Holds.length q0_5) ∧ u.cell? ⟨u6.heap.size, 6, none⟩ = some (.int .i64 x.Box.Tick) ∧ u.cell? ⟨u6.heap.size, 7, none⟩ = some (.slice p0_7 x.States.length q0_7) ∧ u.cell? ⟨w.heap.size, 0, none⟩ = some (.slice a0_0 x.Box.Plan.Parts.length c0_0) ∧ u.cell? ⟨w.heap.size, 1, none⟩ = some (.slice a0_1 x.Box.Plan.Channels.length c0_1) ∧ u.cell? ⟨w.heap.size, 2, none⟩ = some (.slice a0_2 x.Box.Plan.Slots.length c0_2) ∧ u.cell? ⟨w.heap.size, 3, none⟩ = some (.slice a0_3 x.Box.Programs.length c0_3) ∧ u.cell? ⟨w.heap.size, 4, none⟩ = some (.slice a0_4 x.Box.Cores.length c0_4) ∧ u.cell? ⟨w.heap.size, 5, none⟩ = some (.slice a0_5 x.Box.Holds.length c0_5) ∧ u.cell? ⟨w.heap.size, 6, none⟩ = some (.int .i64 x.Box.Tick) ∧ u.cell? ⟨w.heap.size, 7, none⟩ = some (.slice a0_7 x.States.length c0_7))
  (first
   | go_keep
   | exact ⟨(hcb _ _ ltX0).trans fX0_0, (hcb _ _ ltX0).trans fX0_1, (hcb _ _ ltX0).trans fX0_2, (hcb _ _ ltX0).trans fX0_3, (hcb _ _ ltX0).trans fX0_4, (hcb _ _ ltX0).trans fX0_5, (hcb _ _ ltX0).trans fX0_6, (hcb _ _ ltX0).trans fX0_7, (hcb _ _ ltA0).trans fA0_0, (hcb _ _ ltA0).trans fA0_1, (hcb _ _ ltA0).trans fA0_2, (hcb _ _ ltA0).trans fA0_3, (hcb _ _ ltA0).trans fA0_4, (hcb _ _ ltA0).trans fA0_5, (hcb _ _ ltA0).trans fA0_6, (hcb _ _ ltA0).trans fA0_7⟩)
  (first
   | (go_at_call 10; refine (toWatch _ x _ (H0.out.ext E.out.drew) S0.out).mono ?_; rintro e u12 ⟨v1, rfl, ho, he⟩; have X := zh ((Ext.refl _).drew.tr he); have HZ := zh ho.rv; obtain ⟨hcb, _⟩ := bcell X.out; obtain ⟨zp0_0, zq0_0, zp0_1, zq0_1, zp0_2, zq0_2, zp0_3, zq0_3, zp0_4, zq0_4, zp0_5, zq0_5, zp0_7, zq0_7, rfl, _⟩ := ho.rv.openWatch; clear ho he)
   | (go_at_call 13; refine (eqWatch _ _ _ _ _ ⟨_, _, rfl, GT.ext X0.out X.out⟩ HZ.out).mono ?_; rintro e u13 ⟨rfl, he⟩; have XX := zh (X.out.tr he); obtain ⟨hcb, _⟩ := bcell XX.out; clear he))
 clear hcb fX0_0 fX0_1 fX0_2 fX0_3 fX0_4 fX0_5 fX0_6 fX0_7 fA0_0 fA0_1 fA0_2 fA0_3 fA0_4 fA0_5 fA0_6 fA0_7 ltX0 ltA0 X HZ
 replace E := zh (E.out.tr XX.out); replace KA0 := zh (KA0.out.ext XX.out); replace KS0 := zh (KS0.out.ext XX.out); replace EA := zh (EA.out.tr XX.out); replace KX0 := zh (KX0.out.ext XX.out); replace KG0 := zh (KG0.out.ext XX.out)
 replace X0 := zh (GT.ext X0.out XX.out); replace OX0 := zh (OX0.out.ext XX.out)
 replace X1 := zh (X1.out.ext XX.out); replace OX1 := zh (OX1.out.ext XX.out)
 replace G0 := zh (GT.ext G0.out XX.out); replace OG0 := zh (OG0.out.ext XX.out)
 clear XX
 go_upto_region 17 with (first
  | (go_at_call 11; refine (toIntS _ t _ (H1.out.ext E.out) S1.out).mono ?_; rintro e u14 ⟨v1, rfl, ho, he⟩; have X := zh he; have HZ := zh ho.rs; obtain ⟨zp1, zq1, rfl, _⟩ := ho.form; clear ho he)
  | (go_at_call 14; refine (eqIntS _ _ _ _ _ ⟨_, X1.out.ext X.out⟩ HZ.out).mono ?_; rintro e u15 ⟨rfl, he⟩; have XX := zh (X.out.tr he); clear he))
 clear X HZ
 replace E := zh (E.out.tr XX.out); replace KA0 := zh (KA0.out.ext XX.out); replace KS0 := zh (KS0.out.ext XX.out); replace EA := zh (EA.out.tr XX.out); replace KX0 := zh (KX0.out.ext XX.out); replace KG0 := zh (KG0.out.ext XX.out)
 replace X0 := zh (GT.ext X0.out XX.out); replace OX0 := zh (OX0.out.ext XX.out)
 replace X1 := zh (X1.out.ext XX.out); replace OX1 := zh (OX1.out.ext XX.out)
 replace G0 := zh (GT.ext G0.out XX.out); replace OG0 := zh (OG0.out.ext XX.out)
 clear XX
 obtain ⟨fX0_0, fX0_1, fX0_2, fX0_3, fX0_4, fX0_5, fX0_6, fX0_7⟩ := Bk.k8 KX0.out
 have hct0 := ctT_Watch x
 have hS0 := S0.out
 go_upto_region 19 with (go_at_call 15; refine (markWatch _ x _ _ F0 X0.out OX0.out.1 (fun b hb => (OX0.out.2 b hb).2) (by omega) (by omega)).mono ?_; rintro e u16 ⟨rfl, _, hm⟩; have MX := zh (hm); clear hm; generalize hkk : (1 + (x.ctT : Nat) : Int) = kk0 at *; have hk0 : 0 ≤ kk0 := (by omega); have hk0b : kk0 ≤ 100000000 * 1 := (by omega); clear hkk)
 clear fX0_0 fX0_1 fX0_2 fX0_3 fX0_4 fX0_5 fX0_6 fX0_7
 replace E := zh (MX.out.ext E.out (fun x hx => Nat.le_trans (Nat.le_trans (Ext.sz WA.out) (Nat.le_refl _)) (loF0 x hx)))
 replace EA := zh (MX.out.ext EA.out (fun x hx => loF0 x hx))
 replace KA0 := zh (KA00.out.ext EA.out)
 replace KS0 := zh (KS00.out.ext EA.out)
 replace G0 := zh (MX.out.enc G0.out (fun y hy hx => by have h1 := loG0 y hy; have h2 := ltF0 y hx; omega)); replace OG0 := zh (MX.out.own OG0.out)
 replace KG0 := zh (MX.out.bk KG0.out (fun hx => by have h2 := ltF0 _ hx; have h3 := ltb0; omega))
 replace KX0 := zh (MX.out.bk KX0.out (fun hx => notin0_0 hx))
 replace X1 := zh (MX.out.sl X1.out (fun y hy hx => disj0_1 y hx hy)); replace OX1 := zh (MX.out.own OX1.out)
 clear MX hct0 hS0
 have hct1 := ct_list t
 have hS1 := S1.out
 go_upto_region 20 with (go_at_call 16; refine (markIntS _ t _ _ F1 X1.out OX1.out.1 (fun b hb => (OX1.out.2 b hb).2) (by omega) (by omega)).mono ?_; rintro e u17 ⟨rfl, _, hm⟩; have MX := zh (Mx.ofMo hm); clear hm; generalize hkk : (kk0 + (GT.ct t : Nat) : Int) = kk1 at *; have hk1 : 0 ≤ kk1 := (by omega); have hk1b : kk1 ≤ 100000000 * 2 := (by omega); clear hkk)
 replace E := zh (MX.out.ext E.out (fun x hx => Nat.le_trans (Nat.le_trans (Ext.sz WA.out) (Nat.le_refl _)) (loF1 x hx)))
 replace EA := zh (MX.out.ext EA.out (fun x hx => loF1 x hx))
 replace KA0 := zh (KA00.out.ext EA.out)
 replace KS0 := zh (KS00.out.ext EA.out)
 replace G0 := zh (MX.out.enc G0.out (fun y hy hx => by have h1 := loG0 y hy; have h2 := ltF1 y hx; omega)); replace OG0 := zh (MX.out.own OG0.out)
 replace KG0 := zh (MX.out.bk KG0.out (fun hx => by have h2 := ltF1 _ hx; have h3 := ltb0; omega))
 replace KX0 := zh (MX.out.bk KX0.out (fun hx => notin0_1 hx))
 clear MX hct1 hS1
 obtain ⟨fG0_0, fG0_1, fG0_2, fG0_3, fG0_4, fG0_5, fG0_6, fG0_7⟩ := Bk.k8 KG0.out
 obtain ⟨fS0_0, fS0_1, fS0_2, fS0_3, fS0_4, fS0_5, fS0_6, fS0_7⟩ := Bk.k8 KS0.out
 go_upto_region 22 with (go_at_call 13; refine (eqWatch _ _ _ _ _ ⟨_, _, rfl, G0.out⟩ (HW0.out.ext EA.out)).mono ?_; rintro e u18 ⟨rfl, he⟩; have X := zh he; clear he)
 clear fG0_0 fG0_1 fG0_2 fG0_3 fG0_4 fG0_5 fG0_6 fG0_7 fS0_0 fS0_1 fS0_2 fS0_3 fS0_4 fS0_5 fS0_6 fS0_7
 replace E := zh (E.out.tr X.out); replace KA0 := zh (KA0.out.ext X.out); replace KS0 := zh (KS0.out.ext X.out); replace EA := zh (EA.out.tr X.out); replace KX0 := zh (KX0.out.ext X.out); replace KG0 := zh (KG0.out.ext X.out)
 replace G0 := zh (GT.ext G0.out X.out); replace OG0 := zh (OG0.out.ext X.out)
 clear X X0 OX0 X1 OX1
 obtain ⟨fG0_0, fG0_1, fG0_2, fG0_3, fG0_4, fG0_5, fG0_6, fG0_7⟩ := Bk.k8 KG0.out
 have hcY : (M.watched x t T 400).ctT ≤ 100000000 := M.watched_ct x t T 400
 go_upto_region 24 with (go_at_call 15; refine (markWatch _ (M.watched x t T 400) _ _ FG0 G0.out OG0.out.1 (fun b hb => (OG0.out.2 b hb).2) (by omega) (by omega)).mono ?_; rintro e u19 ⟨rfl, hs, hm⟩; have GM := zh hs; have MX := zh (hm); clear hs hm; generalize hmm : (1 + ((M.watched x t T 400).ctT : Nat) : Int) = mm at *; have HM := zh hmm; have hm0 : 0 ≤ mm := (by omega); clear hmm)
 clear fG0_0 fG0_1 fG0_2 fG0_3 fG0_4 fG0_5 fG0_6 fG0_7
 replace E := zh (MX.out.ext E.out (fun x hx => Nat.le_trans (Nat.le_trans (Ext.sz WA.out) (Ext.sz AB.out)) (loG0 x hx)))
 replace EA := zh (MX.out.ext EA.out (fun x hx => Nat.le_trans (Ext.sz AB.out) (loG0 x hx)))
 replace KA0 := zh (KA00.out.ext EA.out)
 replace KS0 := zh (KS00.out.ext EA.out)
 replace KG0 := zh (MX.out.bk KG0.out (fun hx => notinG hx))
 clear MX G0 OG0
 have HI : Hid (((M.watched x t T 400).mkT 1).mkT 1 = (M.watched x t T 400).mkT 1) := zh (mkT_idem_Watch _ _)
 have HC : Hid (((M.watched x t T 400).mkT 1).ctT = (M.watched x t T 400).ctT) := zh (mkT_ct_Watch _ _)
 obtain ⟨fG0_0, fG0_1, fG0_2, fG0_3, fG0_4, fG0_5, fG0_6, fG0_7⟩ := Bk.k8 KG0.out
 go_upto_region 30 with (go_at_call 17; refine (heldWatch _ _ _ _ ⟨_, _, rfl, GM.out⟩ HI.out (by omega) (by have := HC.out; omega)).mono ?_; rintro e u20 ⟨he, hx⟩; have X := zh hx; clear hx; rw [HC.out, HM.out] at he; subst he)
 clear fG0_0 fG0_1 fG0_2 fG0_3 fG0_4 fG0_5 fG0_6 fG0_7
 replace E := zh (E.out.tr X.out); replace KA0 := zh (KA0.out.ext X.out); replace KS0 := zh (KS0.out.ext X.out); replace EA := zh (EA.out.tr X.out); replace KG0 := zh (KG0.out.ext X.out)
 replace GM := zh (GT.ext GM.out X.out)
 clear X
 obtain ⟨fA0_0, fA0_1, fA0_2, fA0_3, fA0_4, fA0_5, fA0_6, fA0_7⟩ := Bk.k8 KA0.out
 go_upto_region 31 with (first
  | (go_at_call 11; have _t := X0; refine (toIntS _ t _ (H1.out.ext (E.out.tr X0.out)) S1.out).mono ?_; rintro e u22 ⟨v1, rfl, ho, he⟩; have HC1_1 := zh ho.rs; have X1 := zh (X0.out.tr he); have HC0_1 := zh (HC0_0.out.ext he); obtain ⟨hp1, hq1, rfl, _⟩ := ho.form; clear ho he)
  | (go_at_call 10; refine (toWatch _ x _ (H0.out.ext E.out) S0.out).mono ?_; rintro e u21 ⟨v1, rfl, ho, he⟩; have HC0_0 := zh ho.rv; have X0 := zh (he); obtain ⟨hp0_0, hq0_0, hp0_1, hq0_1, hp0_2, hq0_2, hp0_3, hq0_3, hp0_4, hq0_4, hp0_5, hq0_5, hp0_7, hq0_7, rfl, _⟩ := ho.rv.openWatch; clear ho he)
  | (go_at_call 12; refine (impl_WatchRun _ _ x t T _ HC0_1.out HC1_1.out).mono ?_; rintro e u23 ⟨v0, rfl, ho0, he⟩; have XX := zh (X1.out.tr he); have N0 := zh ho0.rv; obtain ⟨hp0_0, hq0_0, hp0_1, hq0_1, hp0_2, hq0_2, hp0_3, hq0_3, hp0_4, hq0_4, hp0_5, hq0_5, hp0_7, hq0_7, rfl, _⟩ := ho0.rv.openWatch; clear ho0 he))
 clear fA0_0 fA0_1 fA0_2 fA0_3 fA0_4 fA0_5 fA0_6 fA0_7
 refine abs_world (fun W => Ext u23 W ∧ Bk W u23.heap.size [.slice hp0_0 (M.watched x t T 400).Box.Plan.Parts.length hq0_0, .slice hp0_1 (M.watched x t T 400).Box.Plan.Channels.length hq0_1, .slice hp0_2 (M.watched x t T 400).Box.Plan.Slots.length hq0_2, .slice hp0_3 (M.watched x t T 400).Box.Programs.length hq0_3, .slice hp0_4 (M.watched x t T 400).Box.Cores.length hq0_4, .slice hp0_5 (M.watched x t T 400).Box.Holds.length hq0_5, .int .i64 (M.watched x t T 400).Box.Tick, .slice hp0_7 (M.watched x t T 400).States.length hq0_7] 49) ⟨(Ext.refl _).alloc _, Bk.new _ _ _⟩ ?_
 rintro u24 ⟨y, KN0⟩
 replace XX := zh (XX.out.tr y); replace KN0 := zh KN0; have YY := zh y; clear y
 replace N0 := zh (N0.out.ext YY.out); clear YY
 replace E := zh (E.out.tr XX.out); replace KA0 := zh (KA0.out.ext XX.out); replace KS0 := zh (KS0.out.ext XX.out); replace EA := zh (EA.out.tr XX.out); replace KG0 := zh (KG0.out.ext XX.out)
 replace GM := zh (GT.ext GM.out XX.out); clear XX
 clear X0 X1 HC0_0 HC0_1 HC1_1
 obtain ⟨fN0_0, fN0_1, fN0_2, fN0_3, fN0_4, fN0_5, fN0_6, fN0_7⟩ := Bk.k8 KN0.out
 obtain ⟨fS0_0, fS0_1, fS0_2, fS0_3, fS0_4, fS0_5, fS0_6, fS0_7⟩ := Bk.k8 KS0.out
 go_upto_region 33 with (go_at_call 13; refine (eqWatch _ _ _ _ _ N0.out (HW0.out.ext EA.out)).mono ?_; rintro e u25 ⟨rfl, he⟩; have X := zh he; clear he)
 clear fN0_0 fN0_1 fN0_2 fN0_3 fN0_4 fN0_5 fN0_6 fN0_7 fS0_0 fS0_1 fS0_2 fS0_3 fS0_4 fS0_5 fS0_6 fS0_7
 replace E := zh (E.out.tr X.out); replace KA0 := zh (KA0.out.ext X.out); replace KS0 := zh (KS0.out.ext X.out); replace EA := zh (EA.out.tr X.out); replace KG0 := zh (KG0.out.ext X.out); replace KN0 := zh (KN0.out.ext X.out)
 replace GM := zh (GT.ext GM.out X.out); clear X N0
 obtain ⟨fG0_0, fG0_1, fG0_2, fG0_3, fG0_4, fG0_5, fG0_6, fG0_7⟩ := Bk.k8 KG0.out
 go_wp2_with (go_at_call 17; refine (heldWatch _ _ _ _ ⟨_, _, rfl, GM.out⟩ HI.out (by omega) (by have := HC.out; omega)).mono ?_; rintro e u26 ⟨he, hx⟩; have X := zh hx; clear hx; rw [HC.out, HM.out] at he; subst he)
 go_ret
 exact ⟨rfl, E.out.tr X.out⟩
end Sk
