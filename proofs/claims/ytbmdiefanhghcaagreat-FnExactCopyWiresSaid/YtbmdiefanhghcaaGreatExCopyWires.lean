/- Contracts of functions of the given program, each under the condition that it states. -/
import Derived.Test.YtbmdiefanhghcaaGreatChecked
import Derived.Deep.CutBlock
import Derived.Test.YtbmdiefanhghcaaGreatTot
import Derived.Test.YtbmdiefanhghcaaGreatZzbCwI
import Derived.Test.YtbmdiefanhghcaaGreatZzeCwS
namespace Sk
open Go Go.Proofs Go.RowKit
set_option maxHeartbeats 1600000
set_option maxRecDepth 100000
set_option linter.unusedVariables false
theorem M.copyWires_ct (x : Board) : (M.copyWires x).ctT ≤ 100000000 := by
 cases g : M.bv x
 ·rw [M.copyWires_f g]; decide
 ·rw [M.copyWires_t g]
  have h1 := ctT_Board (M.cw x)
  have h2 := (M.cw_BV (M.bv_iff.1 g)).tot
  omega--%
theorem lawExactCopyWires (v0 : Value) (x : Board) (w : World) (h0 : Rv w v0 x) :
  Calls Tryz.prog 7 #[v0] w fun e w' => e = .returned (.bool true) ∧ Ext w w' := by
 have H0 := zh h0
 obtain ⟨a0_0, c0_0, a0_1, c0_1, rfl, ha0_0, la0_0, ha0_1, la0_1⟩ := h0.openBoard
 clear h0 ha0_0 ha0_1
 go_enter Tryz.func7, Tryz.ntmps7
 go_upto_region 2 with (fail)
 refine abs_world (fun W => Ext w W ∧ Bk W (w.heap.size) [.slice a0_0 x.Boxes.length c0_0, .slice a0_1 x.Wires.length c0_1] 63) ⟨(Ext.refl w).alloc _, (Bk.new _ _ _)⟩ ?_
 rintro W0 ⟨E, KA0⟩
 replace E := zh E; replace KA0 := zh KA0
 obtain ⟨fA0_0, fA0_1⟩ := Bk.k2 KA0.out
 go_upto_region 5 with (go_at_call 20; refine (szBoard _ _ _ _ (H0.out.ext E.out) (by omega) (by omega)).mono ?_; rintro e u1 ⟨⟨s0, rfl, hs0a, hs0b, hs0c⟩, he⟩; have HR0 := zh hs0c; have X := zh he; clear hs0c he)
 ·go_ret
  exact ⟨rfl, E.out.tr X.out⟩
 have S0 : Hid (GT.tot x ≤ 1048576) := zh (by have := HR0.out (by omega); omega)
 clear HR0 fA0_0 fA0_1
 replace E := zh (E.out.tr X.out); replace KA0 := zh (KA0.out.ext X.out)
 clear X
 obtain ⟨fA0_0, fA0_1⟩ := Bk.k2 KA0.out
 go_upto_region 6 with (first
  | (go_at_call 22; refine (toBoard _ x _ (H0.out.ext E.out) S0.out).mono ?_; rintro e u2 ⟨v1, rfl, ho, he⟩; have HC0_0 := zh ho.rv; have X0 := zh (he); obtain ⟨sp0_0, sq0_0, sp0_1, sq0_1, rfl, _⟩ := ho.rv.openBoard; clear ho he)
  | (go_at_call 29; refine (spec_CopyWires _ x _ HC0_0.out).mono ?_; rintro e u3 ⟨v0, rfl, ho0, he⟩; have XX := zh (X0.out.tr he); have HW0 := zh ho0.rv; obtain ⟨sp0_0, sq0_0, sp0_1, sq0_1, rfl, _⟩ := ho0.rv.openBoard; clear ho0 he))
 clear fA0_0 fA0_1
 refine abs_world (fun W => Ext u3 W ∧ Bk W u3.heap.size [.slice sp0_0 (M.copyWires x).Boxes.length sq0_0, .slice sp0_1 (M.copyWires x).Wires.length sq0_1] 68) ⟨(Ext.refl _).alloc _, Bk.new _ _ _⟩ ?_
 rintro u4 ⟨y, KS0⟩
 replace XX := zh (XX.out.tr y); replace KS0 := zh KS0; have YY := zh y; clear y
 replace E := zh (E.out.tr XX.out); replace KA0 := zh (KA0.out.ext XX.out)
 replace HW0 := zh (HW0.out.ext YY.out)
 clear YY
 have WA := zh E.out
 have KA00 := zh KA0.out
 have KS00 := zh KS0.out
 have EA := zh (Ext.refl u4)
 clear XX X0 HC0_0
 obtain ⟨fA0_0, fA0_1⟩ := Bk.k2 KA0.out
 go_upto_region 7 with (go_at_call 22; refine (toBoard _ x _ (H0.out.ext E.out) S0.out).mono ?_; rintro e u5 ⟨v1, rfl, ho, he⟩; have X := zh he; obtain ⟨p0_0, q0_0, p0_1, q0_1, rfl, _⟩ := ho.rv.openBoard; have OX := zh ho; clear ho he)
 clear fA0_0 fA0_1
 obtain ⟨csX, F0, hcX, encX, ownX⟩ := OX.out
 obtain rfl : csX = [.slice p0_0 x.Boxes.length q0_0, .slice p0_1 x.Wires.length q0_1] := by have := agg_inj hcX; simpa using this.symm
 have ltF0 : ∀ k ∈ F0, k < u5.heap.size := fun k hk => ownX.lt hk
 have loF0 : ∀ k ∈ F0, u4.heap.size ≤ k := fun k hk => Nat.le_trans EA.out.sz (ownX.2 k hk).1
 have notin0_0 : u5.heap.size ∉ F0 := fun hx => Nat.lt_irrefl _ (ownX.lt hx)
 have X0 := zh encX; have OX0 := zh ownX; clear encX ownX hcX OX
 refine abs_world (fun W => Ext u5 W ∧ Bk W u5.heap.size [.slice p0_0 x.Boxes.length q0_0, .slice p0_1 x.Wires.length q0_1] 68) ⟨(Ext.refl _).alloc _, Bk.new _ _ _⟩ ?_
 rintro u6 ⟨y, KX0⟩
 replace X := zh (X.out.tr y); replace KX0 := zh KX0; replace X0 := zh (GT.ext X0.out y); replace OX0 := zh (OX0.out.ext y); clear y
 replace E := zh (E.out.tr X.out); replace KA0 := zh (KA0.out.ext X.out); replace KS0 := zh (KS0.out.ext X.out); replace EA := zh (EA.out.tr X.out)
 clear X
 have AB := zh EA.out
 replace ltF0 : ∀ k ∈ F0, k < u6.heap.size := fun k hk => OX0.out.lt hk
 obtain ⟨fX0_0, fX0_1⟩ := Bk.k2 KX0.out
 go_upto_region 8 with (go_at_call 30; refine (impl_CopyWires _ x _ ⟨_, _, rfl, X0.out⟩).mono ?_; rintro e u7 ⟨v0, rfl, ho0, he⟩; have XX := zh (he); have G0 := zh ho0; obtain ⟨gp0_0, gq0_0, gp0_1, gq0_1, rfl, _⟩ := ho0.rv.openBoard; clear ho0 he)
 clear fX0_0 fX0_1
 obtain ⟨csG, FG0, hcG, encG, ownG⟩ := G0.out
 obtain rfl : csG = [.slice gp0_0 (M.copyWires x).Boxes.length gq0_0, .slice gp0_1 (M.copyWires x).Wires.length gq0_1] := by have := agg_inj hcG; simpa using this.symm
 clear hcG
 replace G0 := zh encG; have OG0 := zh ownG; clear encG ownG
 have GSZ := zh (Ext.sz XX.out)
 have NIG : Hid (u7.heap.size ∉ FG0) := zh (fun hx => Nat.lt_irrefl _ (OG0.out.lt hx))
 have loG0 : ∀ k ∈ FG0, u6.heap.size ≤ k := fun k hk => (OG0.out.2 k hk).1
 refine abs_world (fun W => Ext u7 W ∧ Bk W u7.heap.size [.slice gp0_0 (M.copyWires x).Boxes.length gq0_0, .slice gp0_1 (M.copyWires x).Wires.length gq0_1] 68) ⟨(Ext.refl _).alloc _, Bk.new _ _ _⟩ ?_
 rintro u8 ⟨y, KG0⟩
 replace XX := zh (XX.out.tr y); replace KG0 := zh KG0; have YY := zh y; clear y
 replace G0 := zh (GT.ext G0.out YY.out); replace OG0 := zh (OG0.out.ext YY.out)
 clear YY
 replace E := zh (E.out.tr XX.out); replace KA0 := zh (KA0.out.ext XX.out); replace KS0 := zh (KS0.out.ext XX.out); replace EA := zh (EA.out.tr XX.out); replace KX0 := zh (KX0.out.ext XX.out)
 replace X0 := zh (GT.ext X0.out XX.out); replace OX0 := zh (OX0.out.ext XX.out)
 clear XX
 have ltb0 : u6.heap.size ≤ u7.heap.size := GSZ.out
 have notinG : u7.heap.size ∉ FG0 := NIG.out
 have hb0 := Eqb.t (rfl : ((M.copyWires x)) = (M.copyWires x))
 have ha0 := Eqb.t (rfl : x = x)
 obtain ⟨fG0_0, fG0_1⟩ := Bk.k2 KG0.out
 obtain ⟨fS0_0, fS0_1⟩ := Bk.k2 KS0.out
 go_upto_region 10 with (go_at_call 24; refine (eqBoard _ _ _ _ _ ⟨_, _, rfl, G0.out⟩ (HW0.out.ext EA.out)).mono ?_; rintro e u9 ⟨rfl, he⟩; have X := zh he; clear he)
 clear fG0_0 fG0_1 fS0_0 fS0_1
 replace E := zh (E.out.tr X.out); replace KA0 := zh (KA0.out.ext X.out); replace KS0 := zh (KS0.out.ext X.out); replace EA := zh (EA.out.tr X.out); replace KX0 := zh (KX0.out.ext X.out); replace KG0 := zh (KG0.out.ext X.out)
 replace X0 := zh (GT.ext X0.out X.out); replace OX0 := zh (OX0.out.ext X.out)
 replace G0 := zh (GT.ext G0.out X.out); replace OG0 := zh (OG0.out.ext X.out)
 clear X
 obtain ⟨fX0_0, fX0_1⟩ := Bk.k2 KX0.out
 obtain ⟨fA0_0, fA0_1⟩ := Bk.k2 KA0.out
 have ltX0 := KX0.out.lt
 have ltA0 := KA0.out.lt
 go_wp2
 go_region_held3 (fun u => u.cell? ⟨u5.heap.size, 0, none⟩ = some (.slice p0_0 x.Boxes.length q0_0) ∧ u.cell? ⟨u5.heap.size, 1, none⟩ = some (.slice p0_1 x.Wires.length q0_1) ∧ u.cell? ⟨w.heap.size, 0, none⟩ = some (.slice a0_0 x.Boxes.length c0_0) ∧ u.cell? ⟨w.heap.size, 1, none⟩ = some (.slice a0_1 x.Wires.length c0_1))
  (first
   | go_keep
   | exact ⟨(hcb _ _ ltX0).trans fX0_0, (hcb _ _ ltX0).trans fX0_1, (hcb _ _ ltA0).trans fA0_0, (hcb _ _ ltA0).trans fA0_1⟩)
  (first
   | (go_at_call 22; refine (toBoard _ x _ (H0.out.ext E.out.drew) S0.out).mono ?_; rintro e u10 ⟨v1, rfl, ho, he⟩; have X := zh ((Ext.refl _).drew.tr he); have HZ := zh ho.rv; obtain ⟨hcb, _⟩ := bcell X.out; obtain ⟨zp0_0, zq0_0, zp0_1, zq0_1, rfl, _⟩ := ho.rv.openBoard; clear ho he)
   | (go_at_call 24; refine (eqBoard _ _ _ _ _ ⟨_, _, rfl, GT.ext X0.out X.out⟩ HZ.out).mono ?_; rintro e u11 ⟨rfl, he⟩; have XX := zh (X.out.tr he); obtain ⟨hcb, _⟩ := bcell XX.out; clear he))
 clear hcb fX0_0 fX0_1 fA0_0 fA0_1 ltX0 ltA0 X HZ
 replace E := zh (E.out.tr XX.out); replace KA0 := zh (KA0.out.ext XX.out); replace KS0 := zh (KS0.out.ext XX.out); replace EA := zh (EA.out.tr XX.out); replace KX0 := zh (KX0.out.ext XX.out); replace KG0 := zh (KG0.out.ext XX.out)
 replace X0 := zh (GT.ext X0.out XX.out); replace OX0 := zh (OX0.out.ext XX.out)
 replace G0 := zh (GT.ext G0.out XX.out); replace OG0 := zh (OG0.out.ext XX.out)
 clear XX
 obtain ⟨fX0_0, fX0_1⟩ := Bk.k2 KX0.out
 have hct0 := ctT_Board x
 have hS0 := S0.out
 go_upto_region 14 with (go_at_call 25; refine (markBoard _ x _ _ F0 X0.out OX0.out.1 (fun b hb => (OX0.out.2 b hb).2) (by omega) (by omega)).mono ?_; rintro e u12 ⟨rfl, _, hm⟩; have MX := zh (hm); clear hm; generalize hkk : (1 + (x.ctT : Nat) : Int) = kk0 at *; have hk0 : 0 ≤ kk0 := (by omega); have hk0b : kk0 ≤ 100000000 * 1 := (by omega); clear hkk)
 clear fX0_0 fX0_1
 replace E := zh (MX.out.ext E.out (fun x hx => Nat.le_trans (Nat.le_trans (Ext.sz WA.out) (Nat.le_refl _)) (loF0 x hx)))
 replace EA := zh (MX.out.ext EA.out (fun x hx => loF0 x hx))
 replace KA0 := zh (KA00.out.ext EA.out)
 replace KS0 := zh (KS00.out.ext EA.out)
 replace G0 := zh (MX.out.enc G0.out (fun y hy hx => by have h1 := loG0 y hy; have h2 := ltF0 y hx; omega)); replace OG0 := zh (MX.out.own OG0.out)
 replace KG0 := zh (MX.out.bk KG0.out (fun hx => by have h2 := ltF0 _ hx; have h3 := ltb0; omega))
 replace KX0 := zh (MX.out.bk KX0.out (fun hx => notin0_0 hx))
 clear MX hct0 hS0
 obtain ⟨fG0_0, fG0_1⟩ := Bk.k2 KG0.out
 obtain ⟨fS0_0, fS0_1⟩ := Bk.k2 KS0.out
 go_upto_region 16 with (go_at_call 24; refine (eqBoard _ _ _ _ _ ⟨_, _, rfl, G0.out⟩ (HW0.out.ext EA.out)).mono ?_; rintro e u13 ⟨rfl, he⟩; have X := zh he; clear he)
 clear fG0_0 fG0_1 fS0_0 fS0_1
 replace E := zh (E.out.tr X.out); replace KA0 := zh (KA0.out.ext X.out); replace KS0 := zh (KS0.out.ext X.out); replace EA := zh (EA.out.tr X.out); replace KX0 := zh (KX0.out.ext X.out); replace KG0 := zh (KG0.out.ext X.out)
 replace G0 := zh (GT.ext G0.out X.out); replace OG0 := zh (OG0.out.ext X.out)
 clear X X0 OX0
 obtain ⟨fG0_0, fG0_1⟩ := Bk.k2 KG0.out
 have hcY : (M.copyWires x).ctT ≤ 100000000 := M.copyWires_ct x
 go_upto_region 18 with (go_at_call 25; refine (markBoard _ (M.copyWires x) _ _ FG0 G0.out OG0.out.1 (fun b hb => (OG0.out.2 b hb).2) (by omega) (by omega)).mono ?_; rintro e u14 ⟨rfl, hs, hm⟩; have GM := zh hs; have MX := zh (hm); clear hs hm; generalize hmm : (1 + ((M.copyWires x).ctT : Nat) : Int) = mm at *; have HM := zh hmm; have hm0 : 0 ≤ mm := (by omega); clear hmm)
 clear fG0_0 fG0_1
 replace E := zh (MX.out.ext E.out (fun x hx => Nat.le_trans (Nat.le_trans (Ext.sz WA.out) (Ext.sz AB.out)) (loG0 x hx)))
 replace EA := zh (MX.out.ext EA.out (fun x hx => Nat.le_trans (Ext.sz AB.out) (loG0 x hx)))
 replace KA0 := zh (KA00.out.ext EA.out)
 replace KS0 := zh (KS00.out.ext EA.out)
 replace KG0 := zh (MX.out.bk KG0.out (fun hx => notinG hx))
 clear MX G0 OG0
 have HI : Hid (((M.copyWires x).mkT 1).mkT 1 = (M.copyWires x).mkT 1) := zh (mkT_idem_Board _ _)
 have HC : Hid (((M.copyWires x).mkT 1).ctT = (M.copyWires x).ctT) := zh (mkT_ct_Board _ _)
 obtain ⟨fG0_0, fG0_1⟩ := Bk.k2 KG0.out
 go_upto_region 24 with (go_at_call 26; refine (heldBoard _ _ _ _ ⟨_, _, rfl, GM.out⟩ HI.out (by omega) (by have := HC.out; omega)).mono ?_; rintro e u15 ⟨he, hx⟩; have X := zh hx; clear hx; rw [HC.out, HM.out] at he; subst he)
 clear fG0_0 fG0_1
 replace E := zh (E.out.tr X.out); replace KA0 := zh (KA0.out.ext X.out); replace KS0 := zh (KS0.out.ext X.out); replace EA := zh (EA.out.tr X.out); replace KG0 := zh (KG0.out.ext X.out)
 replace GM := zh (GT.ext GM.out X.out)
 clear X
 obtain ⟨fA0_0, fA0_1⟩ := Bk.k2 KA0.out
 go_upto_region 25 with (first
  | (go_at_call 22; refine (toBoard _ x _ (H0.out.ext E.out) S0.out).mono ?_; rintro e u16 ⟨v1, rfl, ho, he⟩; have HC0_0 := zh ho.rv; have X0 := zh (he); obtain ⟨hp0_0, hq0_0, hp0_1, hq0_1, rfl, _⟩ := ho.rv.openBoard; clear ho he)
  | (go_at_call 30; refine (impl_CopyWires _ x _ HC0_0.out).mono ?_; rintro e u17 ⟨v0, rfl, ho0, he⟩; have XX := zh (X0.out.tr he); have N0 := zh ho0.rv; obtain ⟨hp0_0, hq0_0, hp0_1, hq0_1, rfl, _⟩ := ho0.rv.openBoard; clear ho0 he))
 clear fA0_0 fA0_1
 refine abs_world (fun W => Ext u17 W ∧ Bk W u17.heap.size [.slice hp0_0 (M.copyWires x).Boxes.length hq0_0, .slice hp0_1 (M.copyWires x).Wires.length hq0_1] 68) ⟨(Ext.refl _).alloc _, Bk.new _ _ _⟩ ?_
 rintro u18 ⟨y, KN0⟩
 replace XX := zh (XX.out.tr y); replace KN0 := zh KN0; have YY := zh y; clear y
 replace N0 := zh (N0.out.ext YY.out); clear YY
 replace E := zh (E.out.tr XX.out); replace KA0 := zh (KA0.out.ext XX.out); replace KS0 := zh (KS0.out.ext XX.out); replace EA := zh (EA.out.tr XX.out); replace KG0 := zh (KG0.out.ext XX.out)
 replace GM := zh (GT.ext GM.out XX.out); clear XX
 clear X0 HC0_0
 obtain ⟨fN0_0, fN0_1⟩ := Bk.k2 KN0.out
 obtain ⟨fS0_0, fS0_1⟩ := Bk.k2 KS0.out
 go_upto_region 27 with (go_at_call 24; refine (eqBoard _ _ _ _ _ N0.out (HW0.out.ext EA.out)).mono ?_; rintro e u19 ⟨rfl, he⟩; have X := zh he; clear he)
 clear fN0_0 fN0_1 fS0_0 fS0_1
 replace E := zh (E.out.tr X.out); replace KA0 := zh (KA0.out.ext X.out); replace KS0 := zh (KS0.out.ext X.out); replace EA := zh (EA.out.tr X.out); replace KG0 := zh (KG0.out.ext X.out); replace KN0 := zh (KN0.out.ext X.out)
 replace GM := zh (GT.ext GM.out X.out); clear X N0
 obtain ⟨fG0_0, fG0_1⟩ := Bk.k2 KG0.out
 go_wp2_with (go_at_call 26; refine (heldBoard _ _ _ _ ⟨_, _, rfl, GM.out⟩ HI.out (by omega) (by have := HC.out; omega)).mono ?_; rintro e u20 ⟨he, hx⟩; have X := zh hx; clear hx; rw [HC.out, HM.out] at he; subst he)
 go_ret
 exact ⟨rfl, E.out.tr X.out⟩
end Sk
