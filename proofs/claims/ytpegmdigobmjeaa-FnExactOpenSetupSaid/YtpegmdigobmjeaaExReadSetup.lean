/- Contracts of functions of the given program, and lemmas for them: each theorem states the condition under which it holds. -/
import Derived.Test.YtpegmdigobmjeaaChecked
import Derived.Deep.CutBlock
import Derived.Test.YtpegmdigobmjeaaExBase
import Derived.Test.YtpegmdigobmjeaaReadS
import Derived.Test.YtpegmdigobmjeaaTot
namespace Sk
open Go Go.Proofs Go.RowKit
set_option maxHeartbeats 1600000
set_option maxRecDepth 100000
set_option linter.unusedVariables false
theorem M.readS_ct (xs : List Int) : (M.readS xs).1.ctT ≤ 100000000 := by
  by_cases h : ∃ s, M.setv s = true ∧ M.nums s = xs
  · obtain ⟨s, hs, rfl⟩ := h
    rw [M.readS_of hs]
    have h1 := ctT_Setup s
    have h2 := M.setv_tot hs
    show s.ctT ≤ _
    omega
  · rw [M.readS_none (fun s hs e => h ⟨s, hs, e⟩)]
    decide--%
theorem lawExactReadSetup (v0 : Value) (xs : List Int) (w : World) (h0 : Rs w v0 xs) :
   Calls Try.prog 3 #[v0] w fun e w' => e = .returned (.bool true) ∧ Ext w w' := by
  have H0 := Lib.hid h0
  obtain ⟨a0, c0, rfl, la0⟩ := h0.form
  clear h0
  by_cases hn0 : xs.length ≤ 1048576
  rotate_left
  · go_enter Try.func3, Try.ntmps3
    go_wp2
    go_ret
    exact ⟨rfl, Ext.refl w⟩
  go_enter Try.func3, Try.ntmps3
  go_upto_region 3 with (fail)
  refine abs_world (fun W => Ext w W) (Ext.refl w) ?_
  rintro W0 E
  replace E := Lib.hid E
  have S0 : Hid (GT.tot xs ≤ 1048576) := Lib.hid (by rw [tot_ints]; exact hn0)
  go_upto_region 4 with (first
    | (go_at_call 9; refine (toIntS _ xs _ (H0.out.ext E.out) S0.out).mono ?_; rintro e u1 ⟨v1, rfl, ho, he⟩; have HC0_0 := Lib.hid ho.rs; have X0 := Lib.hid (he); obtain ⟨sp0, sq0, rfl, _⟩ := ho.form; clear ho he)
    | (go_at_call 8; refine (spec_ReadSetup _ xs _ HC0_0.out).mono ?_; rintro e u2 ⟨v0, rfl, ho0, he⟩; have XX := Lib.hid (X0.out.tr he); have HW0 := Lib.hid ho0; obtain ⟨sp0_0, sq0_0, sp0_1, sq0_1, sp0_2, sq0_2, rfl, _⟩ := ho0.openSetup; clear ho0 he))
  refine abs_world (fun W => Ext u2 W ∧ Bk W u2.heap.size [.slice sp0_0 (M.readS xs).1.Parts.length sq0_0, .slice sp0_1 (M.readS xs).1.Channels.length sq0_1, .slice sp0_2 (M.readS xs).1.Slots.length sq0_2] 27) ⟨(Ext.refl _).alloc _, Bk.new _ _ _⟩ ?_
  rintro u3 ⟨y, KS0⟩
  replace XX := Lib.hid (XX.out.tr y); replace KS0 := Lib.hid KS0; have YY := Lib.hid y; clear y
  replace E := Lib.hid (E.out.tr XX.out)
  replace HW0 := Lib.hid (HW0.out.ext YY.out)
  clear YY
  have WA := Lib.hid E.out
  have KS00 := Lib.hid KS0.out
  have EA := Lib.hid (Ext.refl u3)
  clear XX X0 HC0_0
  go_upto_region 5 with (go_at_call 9; refine (toIntS _ xs _ (H0.out.ext E.out) S0.out).mono ?_; rintro e u4 ⟨v1, rfl, ho, he⟩; have X := Lib.hid he; obtain ⟨p0, q0, rfl, _⟩ := ho.form; have OX := Lib.hid ho; clear ho he)
  obtain ⟨F0, slX, ownX⟩ := OX.out
  have ltF0 : ∀ k ∈ F0, k < u4.heap.size := fun k hk => ownX.lt hk
  have loF0 : ∀ k ∈ F0, u3.heap.size ≤ k := fun k hk => Nat.le_trans EA.out.sz (ownX.2 k hk).1
  have X0 := Lib.hid slX; have OX0 := Lib.hid ownX; clear slX ownX OX
  replace E := Lib.hid (E.out.tr X.out); replace KS0 := Lib.hid (KS0.out.ext X.out); replace EA := Lib.hid (EA.out.tr X.out)
  clear X
  have AB := Lib.hid EA.out
  replace ltF0 : ∀ k ∈ F0, k < u4.heap.size := fun k hk => OX0.out.lt hk
  go_upto_region 6 with (go_at_call 10; refine (impl_ReadSetup _ xs _ ⟨_, X0.out⟩).mono ?_; rintro e u5 ⟨v0, rfl, ho0, he⟩; have XX := Lib.hid (he); have G0 := Lib.hid ho0; obtain ⟨gp0_0, gq0_0, gp0_1, gq0_1, gp0_2, gq0_2, rfl, _⟩ := ho0.rv.openSetup; clear ho0 he)
  obtain ⟨csG, FG0, hcG, encG, ownG⟩ := G0.out
  obtain rfl : csG = [.slice gp0_0 (M.readS xs).1.Parts.length gq0_0, .slice gp0_1 (M.readS xs).1.Channels.length gq0_1, .slice gp0_2 (M.readS xs).1.Slots.length gq0_2] := by have := agg_inj hcG; simpa using this.symm
  clear hcG
  replace G0 := Lib.hid encG; have OG0 := Lib.hid ownG; clear encG ownG
  have GSZ := Lib.hid (Ext.sz XX.out)
  have NIG : Hid (u5.heap.size ∉ FG0) := Lib.hid (fun hx => Nat.lt_irrefl _ (OG0.out.lt hx))
  have loG0 : ∀ k ∈ FG0, u4.heap.size ≤ k := fun k hk => (OG0.out.2 k hk).1
  refine abs_world (fun W => Ext u5 W ∧ Bk W u5.heap.size [.slice gp0_0 (M.readS xs).1.Parts.length gq0_0, .slice gp0_1 (M.readS xs).1.Channels.length gq0_1, .slice gp0_2 (M.readS xs).1.Slots.length gq0_2] 27) ⟨(Ext.refl _).alloc _, Bk.new _ _ _⟩ ?_
  rintro u6 ⟨y, KG0⟩
  replace XX := Lib.hid (XX.out.tr y); replace KG0 := Lib.hid KG0; have YY := Lib.hid y; clear y
  replace G0 := Lib.hid (GT.ext G0.out YY.out); replace OG0 := Lib.hid (OG0.out.ext YY.out)
  clear YY
  replace E := Lib.hid (E.out.tr XX.out); replace KS0 := Lib.hid (KS0.out.ext XX.out); replace EA := Lib.hid (EA.out.tr XX.out)
  replace X0 := Lib.hid (X0.out.ext XX.out); replace OX0 := Lib.hid (OX0.out.ext XX.out)
  clear XX
  have ltb0 : u4.heap.size ≤ u5.heap.size := GSZ.out
  have notinG : u5.heap.size ∉ FG0 := NIG.out
  have hb0 := Eqb.t (rfl : ((M.readS xs).1) = (M.readS xs).1)
  have ha0 := Eqb.t (rfl : xs = xs)
  have fG0_0 := KG0.out.cell (j := 0) rfl
  have fG0_1 := KG0.out.cell (j := 1) rfl
  have fG0_2 := KG0.out.cell (j := 2) rfl
  have fS0_0 := KS0.out.cell (j := 0) rfl
  have fS0_1 := KS0.out.cell (j := 1) rfl
  have fS0_2 := KS0.out.cell (j := 2) rfl
  go_upto_region 8 with (go_at_call 11; refine (eqSetup _ _ _ _ _ ⟨_, _, rfl, G0.out⟩ (HW0.out.ext EA.out)).mono ?_; rintro e u7 ⟨rfl, he⟩; have X := Lib.hid he; clear he)
  clear fG0_0 fG0_1 fG0_2 fS0_0 fS0_1 fS0_2
  replace E := Lib.hid (E.out.tr X.out); replace KS0 := Lib.hid (KS0.out.ext X.out); replace EA := Lib.hid (EA.out.tr X.out); replace KG0 := Lib.hid (KG0.out.ext X.out)
  replace X0 := Lib.hid (X0.out.ext X.out); replace OX0 := Lib.hid (OX0.out.ext X.out)
  replace G0 := Lib.hid (GT.ext G0.out X.out); replace OG0 := Lib.hid (OG0.out.ext X.out)
  clear X
  go_upto_region 10 with (first
    | (go_at_call 9; refine (toIntS _ xs _ (H0.out.ext E.out) S0.out).mono ?_; rintro e u8 ⟨v1, rfl, ho, he⟩; have X := Lib.hid he; have HZ := Lib.hid ho.rs; obtain ⟨zp0, zq0, rfl, _⟩ := ho.form; clear ho he)
    | (go_at_call 12; refine (eqIntS _ _ _ _ _ ⟨_, X0.out.ext X.out⟩ HZ.out).mono ?_; rintro e u9 ⟨rfl, he⟩; have XX := Lib.hid (X.out.tr he); clear he))
  clear X HZ
  replace E := Lib.hid (E.out.tr XX.out); replace KS0 := Lib.hid (KS0.out.ext XX.out); replace EA := Lib.hid (EA.out.tr XX.out); replace KG0 := Lib.hid (KG0.out.ext XX.out)
  replace X0 := Lib.hid (X0.out.ext XX.out); replace OX0 := Lib.hid (OX0.out.ext XX.out)
  replace G0 := Lib.hid (GT.ext G0.out XX.out); replace OG0 := Lib.hid (OG0.out.ext XX.out)
  clear XX
  have hct0 := ct_list xs
  have hS0 := S0.out
  go_upto_region 12 with (go_at_call 13; refine (markIntS _ xs _ _ F0 X0.out OX0.out.1 (fun b hb => (OX0.out.2 b hb).2) (by omega) (by omega)).mono ?_; rintro e u10 ⟨rfl, _, hm⟩; have MX := Lib.hid (Mx.ofMo hm); clear hm; generalize hkk : (1 + (GT.ct xs : Nat) : Int) = kk0 at *; have hk0 : 0 ≤ kk0 := (by omega); have hk0b : kk0 ≤ 100000000 * 1 := (by omega); clear hkk)
  replace E := Lib.hid (MX.out.ext E.out (fun x hx => Nat.le_trans (Nat.le_trans (Ext.sz WA.out) (Nat.le_refl _)) (loF0 x hx)))
  replace EA := Lib.hid (MX.out.ext EA.out (fun x hx => loF0 x hx))
  replace KS0 := Lib.hid (KS00.out.ext EA.out)
  replace G0 := Lib.hid (MX.out.enc G0.out (fun y hy hx => by have h1 := loG0 y hy; have h2 := ltF0 y hx; omega)); replace OG0 := Lib.hid (MX.out.own OG0.out)
  replace KG0 := Lib.hid (MX.out.bk KG0.out (fun hx => by have h2 := ltF0 _ hx; have h3 := ltb0; omega))
  clear MX hct0 hS0
  have fG0_0 := KG0.out.cell (j := 0) rfl
  have fG0_1 := KG0.out.cell (j := 1) rfl
  have fG0_2 := KG0.out.cell (j := 2) rfl
  have fS0_0 := KS0.out.cell (j := 0) rfl
  have fS0_1 := KS0.out.cell (j := 1) rfl
  have fS0_2 := KS0.out.cell (j := 2) rfl
  go_upto_region 14 with (go_at_call 11; refine (eqSetup _ _ _ _ _ ⟨_, _, rfl, G0.out⟩ (HW0.out.ext EA.out)).mono ?_; rintro e u11 ⟨rfl, he⟩; have X := Lib.hid he; clear he)
  clear fG0_0 fG0_1 fG0_2 fS0_0 fS0_1 fS0_2
  replace E := Lib.hid (E.out.tr X.out); replace KS0 := Lib.hid (KS0.out.ext X.out); replace EA := Lib.hid (EA.out.tr X.out); replace KG0 := Lib.hid (KG0.out.ext X.out)
  replace G0 := Lib.hid (GT.ext G0.out X.out); replace OG0 := Lib.hid (OG0.out.ext X.out)
  clear X X0 OX0
  have fG0_0 := KG0.out.cell (j := 0) rfl
  have fG0_1 := KG0.out.cell (j := 1) rfl
  have fG0_2 := KG0.out.cell (j := 2) rfl
  have hcY : (M.readS xs).1.ctT ≤ 100000000 := M.readS_ct xs
  go_upto_region 16 with (go_at_call 14; refine (markSetup _ (M.readS xs).1 _ _ FG0 G0.out OG0.out.1 (fun b hb => (OG0.out.2 b hb).2) (by omega) (by omega)).mono ?_; rintro e u12 ⟨rfl, hs, hm⟩; have GM := Lib.hid hs; have MX := Lib.hid (hm); clear hs hm; generalize hmm : (1 + ((M.readS xs).1.ctT : Nat) : Int) = mm at *; have HM := Lib.hid hmm; have hm0 : 0 ≤ mm := (by omega); clear hmm)
  clear fG0_0 fG0_1 fG0_2
  replace E := Lib.hid (MX.out.ext E.out (fun x hx => Nat.le_trans (Nat.le_trans (Ext.sz WA.out) (Ext.sz AB.out)) (loG0 x hx)))
  replace EA := Lib.hid (MX.out.ext EA.out (fun x hx => Nat.le_trans (Ext.sz AB.out) (loG0 x hx)))
  replace KS0 := Lib.hid (KS00.out.ext EA.out)
  replace KG0 := Lib.hid (MX.out.bk KG0.out (fun hx => notinG hx))
  clear MX G0 OG0
  have HI : Hid (((M.readS xs).1.mkT 1).mkT 1 = (M.readS xs).1.mkT 1) := Lib.hid (mkT_idem_Setup _ _)
  have HC : Hid (((M.readS xs).1.mkT 1).ctT = (M.readS xs).1.ctT) := Lib.hid (mkT_ct_Setup _ _)
  have fG0_0 := KG0.out.cell (j := 0) rfl
  have fG0_1 := KG0.out.cell (j := 1) rfl
  have fG0_2 := KG0.out.cell (j := 2) rfl
  go_upto_region 22 with (go_at_call 15; refine (heldSetup _ _ _ _ ⟨_, _, rfl, GM.out⟩ HI.out (by omega) (by have := HC.out; omega)).mono ?_; rintro e u13 ⟨he, hx⟩; have X := Lib.hid hx; clear hx; rw [HC.out, HM.out] at he; subst he)
  clear fG0_0 fG0_1 fG0_2
  replace E := Lib.hid (E.out.tr X.out); replace KS0 := Lib.hid (KS0.out.ext X.out); replace EA := Lib.hid (EA.out.tr X.out); replace KG0 := Lib.hid (KG0.out.ext X.out)
  replace GM := Lib.hid (GT.ext GM.out X.out)
  clear X
  go_upto_region 23 with (first
    | (go_at_call 9; refine (toIntS _ xs _ (H0.out.ext E.out) S0.out).mono ?_; rintro e u14 ⟨v1, rfl, ho, he⟩; have HC0_0 := Lib.hid ho.rs; have X0 := Lib.hid (he); obtain ⟨hp0, hq0, rfl, _⟩ := ho.form; clear ho he)
    | (go_at_call 10; refine (impl_ReadSetup _ xs _ HC0_0.out).mono ?_; rintro e u15 ⟨v0, rfl, ho0, he⟩; have XX := Lib.hid (X0.out.tr he); have N0 := Lib.hid ho0.rv; obtain ⟨hp0_0, hq0_0, hp0_1, hq0_1, hp0_2, hq0_2, rfl, _⟩ := ho0.rv.openSetup; clear ho0 he))
  refine abs_world (fun W => Ext u15 W ∧ Bk W u15.heap.size [.slice hp0_0 (M.readS xs).1.Parts.length hq0_0, .slice hp0_1 (M.readS xs).1.Channels.length hq0_1, .slice hp0_2 (M.readS xs).1.Slots.length hq0_2] 27) ⟨(Ext.refl _).alloc _, Bk.new _ _ _⟩ ?_
  rintro u16 ⟨y, KN0⟩
  replace XX := Lib.hid (XX.out.tr y); replace KN0 := Lib.hid KN0; have YY := Lib.hid y; clear y
  replace N0 := Lib.hid (N0.out.ext YY.out); clear YY
  replace E := Lib.hid (E.out.tr XX.out); replace KS0 := Lib.hid (KS0.out.ext XX.out); replace EA := Lib.hid (EA.out.tr XX.out); replace KG0 := Lib.hid (KG0.out.ext XX.out)
  replace GM := Lib.hid (GT.ext GM.out XX.out); clear XX
  clear X0 HC0_0
  have fN0_0 := KN0.out.cell (j := 0) rfl
  have fN0_1 := KN0.out.cell (j := 1) rfl
  have fN0_2 := KN0.out.cell (j := 2) rfl
  have fS0_0 := KS0.out.cell (j := 0) rfl
  have fS0_1 := KS0.out.cell (j := 1) rfl
  have fS0_2 := KS0.out.cell (j := 2) rfl
  go_upto_region 25 with (go_at_call 11; refine (eqSetup _ _ _ _ _ N0.out (HW0.out.ext EA.out)).mono ?_; rintro e u17 ⟨rfl, he⟩; have X := Lib.hid he; clear he)
  clear fN0_0 fN0_1 fN0_2 fS0_0 fS0_1 fS0_2
  replace E := Lib.hid (E.out.tr X.out); replace KS0 := Lib.hid (KS0.out.ext X.out); replace EA := Lib.hid (EA.out.tr X.out); replace KG0 := Lib.hid (KG0.out.ext X.out); replace KN0 := Lib.hid (KN0.out.ext X.out)
  replace GM := Lib.hid (GT.ext GM.out X.out); clear X N0
  have fG0_0 := KG0.out.cell (j := 0) rfl
  have fG0_1 := KG0.out.cell (j := 1) rfl
  have fG0_2 := KG0.out.cell (j := 2) rfl
  go_wp2_with (go_at_call 15; refine (heldSetup _ _ _ _ ⟨_, _, rfl, GM.out⟩ HI.out (by omega) (by have := HC.out; omega)).mono ?_; rintro e u18 ⟨he, hx⟩; have X := Lib.hid hx; clear hx; rw [HC.out, HM.out] at he; subst he)
  go_ret
  exact ⟨rfl, E.out.tr X.out⟩
end Sk

