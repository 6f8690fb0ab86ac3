/- Contracts of functions of the given program, and lemmas for them: each theorem states the condition under which it holds. -/
import Derived.Test.YtlejdkiihpeojaaGreatChecked
import Derived.Deep.CutBlock
import Derived.Test.YtlejdkiihpeojaaGreatTot
import Derived.Test.YtlejdkiihpeojaaGreatZhFgI
import Derived.Test.YtlejdkiihpeojaaGreatZiFgS
namespace Sk
open Go Go.Proofs Go.RowKit
set_option maxHeartbeats 1600000
set_option maxRecDepth 100000
set_option linter.unusedVariables false
theorem lawExactForgetOthers (v0 : Value) (m : Machine) (n : Int) (w : World) (h0 : Rv w v0 m) (rn : rng n) :
   Calls Tryz.prog 8 #[v0, .int .i64 n] w fun e w' => e = .returned (.bool true) ∧ Ext w w' := by
  have H0 := Lib.hid h0
  obtain ⟨a0_0, c0_0, a0_1, c0_1, a0_2, c0_2, a0_3, c0_3, a0_4, c0_4, a0_5, c0_5, rfl, ra0_6, ha0_0, la0_0, ha0_1, la0_1, ha0_2, la0_2, ha0_3, la0_3, ha0_4, la0_4, ha0_5, la0_5⟩ := h0.openMachine
  clear h0 ha0_0 ha0_1 ha0_2 ha0_3 ha0_4 ha0_5
  have RRn := Lib.hid rn
  obtain ⟨rn1, rn2⟩ := rn
  go_enter Tryz.func8, Tryz.ntmps8
  go_upto_region 2 with (fail)
  refine abs_world (fun W => Ext w W ∧ Bk W (w.heap.size) [.slice a0_0 m.Plan.Parts.length c0_0, .slice a0_1 m.Plan.Channels.length c0_1, .slice a0_2 m.Plan.Slots.length c0_2, .slice a0_3 m.Programs.length c0_3, .slice a0_4 m.Cores.length c0_4, .slice a0_5 m.Holds.length c0_5, .int .i64 m.Tick] 31) ⟨(Ext.refl w).alloc _, (Bk.new _ _ _)⟩ ?_
  rintro W0 ⟨E, KA0⟩
  replace E := Lib.hid E; replace KA0 := Lib.hid KA0
  have fA0_0 := KA0.out.cell (j := 0) rfl
  have fA0_1 := KA0.out.cell (j := 1) rfl
  have fA0_2 := KA0.out.cell (j := 2) rfl
  have fA0_3 := KA0.out.cell (j := 3) rfl
  have fA0_4 := KA0.out.cell (j := 4) rfl
  have fA0_5 := KA0.out.cell (j := 5) rfl
  have fA0_6 := KA0.out.cell (j := 6) rfl
  go_upto_region 5 with (go_at_call 9; refine (szMachine _ _ _ _ (H0.out.ext E.out) (by omega) (by omega)).mono ?_; rintro e u1 ⟨⟨s0, rfl, hs0a, hs0b, hs0c⟩, he⟩; have HR0 := Lib.hid hs0c; have X := Lib.hid he; clear hs0c he)
  · go_ret
    exact ⟨rfl, E.out.tr X.out⟩
  have S0 : Hid (GT.tot m ≤ 1048576) := Lib.hid (by have := HR0.out (by omega); omega)
  clear HR0 fA0_0 fA0_1 fA0_2 fA0_3 fA0_4 fA0_5 fA0_6
  replace E := Lib.hid (E.out.tr X.out); replace KA0 := Lib.hid (KA0.out.ext X.out)
  clear X
  have fA0_0 := KA0.out.cell (j := 0) rfl
  have fA0_1 := KA0.out.cell (j := 1) rfl
  have fA0_2 := KA0.out.cell (j := 2) rfl
  have fA0_3 := KA0.out.cell (j := 3) rfl
  have fA0_4 := KA0.out.cell (j := 4) rfl
  have fA0_5 := KA0.out.cell (j := 5) rfl
  have fA0_6 := KA0.out.cell (j := 6) rfl
  go_upto_region 6 with (first
    | (go_at_call 11; refine (toMachine _ m _ (H0.out.ext E.out) S0.out).mono ?_; rintro e u2 ⟨v1, rfl, ho, he⟩; have HC0_0 := Lib.hid ho.rv; have X0 := Lib.hid (he); obtain ⟨sp0_0, sq0_0, sp0_1, sq0_1, sp0_2, sq0_2, sp0_3, sq0_3, sp0_4, sq0_4, sp0_5, sq0_5, rfl, _⟩ := ho.rv.openMachine; clear ho he)
    | (go_at_call 27; refine (spec_ForgetOthers _ m n _ HC0_0.out).mono ?_; rintro e u3 ⟨v0, rfl, ho0, he⟩; have XX := Lib.hid (X0.out.tr he); have HW0 := Lib.hid ho0.rv; obtain ⟨sp0_0, sq0_0, sp0_1, sq0_1, sp0_2, sq0_2, sp0_3, sq0_3, sp0_4, sq0_4, sp0_5, sq0_5, rfl, _⟩ := ho0.rv.openMachine; clear ho0 he))
  clear fA0_0 fA0_1 fA0_2 fA0_3 fA0_4 fA0_5 fA0_6
  refine abs_world (fun W => Ext u3 W ∧ Bk W u3.heap.size [.slice sp0_0 (M.forget m n).Plan.Parts.length sq0_0, .slice sp0_1 (M.forget m n).Plan.Channels.length sq0_1, .slice sp0_2 (M.forget m n).Plan.Slots.length sq0_2, .slice sp0_3 (M.forget m n).Programs.length sq0_3, .slice sp0_4 (M.forget m n).Cores.length sq0_4, .slice sp0_5 (M.forget m n).Holds.length sq0_5, .int .i64 (M.forget m n).Tick] 42) ⟨(Ext.refl _).alloc _, Bk.new _ _ _⟩ ?_
  rintro u4 ⟨y, KS0⟩
  replace XX := Lib.hid (XX.out.tr y); replace KS0 := Lib.hid KS0; have YY := Lib.hid y; clear y
  replace E := Lib.hid (E.out.tr XX.out); replace KA0 := Lib.hid (KA0.out.ext XX.out)
  replace HW0 := Lib.hid (HW0.out.ext YY.out)
  clear YY
  have WA := Lib.hid E.out
  have KA00 := Lib.hid KA0.out
  have KS00 := Lib.hid KS0.out
  have EA := Lib.hid (Ext.refl u4)
  clear XX X0 HC0_0
  have fA0_0 := KA0.out.cell (j := 0) rfl
  have fA0_1 := KA0.out.cell (j := 1) rfl
  have fA0_2 := KA0.out.cell (j := 2) rfl
  have fA0_3 := KA0.out.cell (j := 3) rfl
  have fA0_4 := KA0.out.cell (j := 4) rfl
  have fA0_5 := KA0.out.cell (j := 5) rfl
  have fA0_6 := KA0.out.cell (j := 6) rfl
  go_upto_region 7 with (go_at_call 11; refine (toMachine _ m _ (H0.out.ext E.out) S0.out).mono ?_; rintro e u5 ⟨v1, rfl, ho, he⟩; have X := Lib.hid he; obtain ⟨p0_0, q0_0, p0_1, q0_1, p0_2, q0_2, p0_3, q0_3, p0_4, q0_4, p0_5, q0_5, rfl, _⟩ := ho.rv.openMachine; have OX := Lib.hid ho; clear ho he)
  clear fA0_0 fA0_1 fA0_2 fA0_3 fA0_4 fA0_5 fA0_6
  obtain ⟨csX, F0, hcX, encX, ownX⟩ := OX.out
  obtain rfl : csX = [.slice p0_0 m.Plan.Parts.length q0_0, .slice p0_1 m.Plan.Channels.length q0_1, .slice p0_2 m.Plan.Slots.length q0_2, .slice p0_3 m.Programs.length q0_3, .slice p0_4 m.Cores.length q0_4, .slice p0_5 m.Holds.length q0_5, .int .i64 m.Tick] := by have := agg_inj hcX; simpa using this.symm
  have ltF0 : ∀ k ∈ F0, k < u5.heap.size := fun k hk => ownX.lt hk
  have loF0 : ∀ k ∈ F0, u4.heap.size ≤ k := fun k hk => Nat.le_trans EA.out.sz (ownX.2 k hk).1
  have notin0_0 : u5.heap.size ∉ F0 := fun hx => Nat.lt_irrefl _ (ownX.lt hx)
  have X0 := Lib.hid encX; have OX0 := Lib.hid ownX; clear encX ownX hcX OX
  refine abs_world (fun W => Ext u5 W ∧ Bk W u5.heap.size [.slice p0_0 m.Plan.Parts.length q0_0, .slice p0_1 m.Plan.Channels.length q0_1, .slice p0_2 m.Plan.Slots.length q0_2, .slice p0_3 m.Programs.length q0_3, .slice p0_4 m.Cores.length q0_4, .slice p0_5 m.Holds.length q0_5, .int .i64 m.Tick] 42) ⟨(Ext.refl _).alloc _, Bk.new _ _ _⟩ ?_
  rintro u6 ⟨y, KX0⟩
  replace X := Lib.hid (X.out.tr y); replace KX0 := Lib.hid KX0; replace X0 := Lib.hid (GT.ext X0.out y); replace OX0 := Lib.hid (OX0.out.ext y); clear y
  replace E := Lib.hid (E.out.tr X.out); replace KA0 := Lib.hid (KA0.out.ext X.out); replace KS0 := Lib.hid (KS0.out.ext X.out); replace EA := Lib.hid (EA.out.tr X.out)
  clear X
  have AB := Lib.hid EA.out
  replace ltF0 : ∀ k ∈ F0, k < u6.heap.size := fun k hk => OX0.out.lt hk
  have fX0_0 := KX0.out.cell (j := 0) rfl
  have fX0_1 := KX0.out.cell (j := 1) rfl
  have fX0_2 := KX0.out.cell (j := 2) rfl
  have fX0_3 := KX0.out.cell (j := 3) rfl
  have fX0_4 := KX0.out.cell (j := 4) rfl
  have fX0_5 := KX0.out.cell (j := 5) rfl
  have fX0_6 := KX0.out.cell (j := 6) rfl
  go_upto_region 8 with (go_at_call 28; refine (impl_ForgetOthers _ m n _ ⟨_, _, rfl, X0.out⟩).mono ?_; rintro e u7 ⟨v0, rfl, ho0, he⟩; have XX := Lib.hid (he); have G0 := Lib.hid ho0; obtain ⟨gp0_0, gq0_0, gp0_1, gq0_1, gp0_2, gq0_2, gp0_3, gq0_3, gp0_4, gq0_4, gp0_5, gq0_5, rfl, _⟩ := ho0.rv.openMachine; clear ho0 he)
  clear fX0_0 fX0_1 fX0_2 fX0_3 fX0_4 fX0_5 fX0_6
  obtain ⟨csG, FG0, hcG, encG, ownG⟩ := G0.out
  obtain rfl : csG = [.slice gp0_0 (M.forget m n).Plan.Parts.length gq0_0, .slice gp0_1 (M.forget m n).Plan.Channels.length gq0_1, .slice gp0_2 (M.forget m n).Plan.Slots.length gq0_2, .slice gp0_3 (M.forget m n).Programs.length gq0_3, .slice gp0_4 (M.forget m n).Cores.length gq0_4, .slice gp0_5 (M.forget m n).Holds.length gq0_5, .int .i64 (M.forget m n).Tick] := by have := agg_inj hcG; simpa using this.symm
  clear hcG
  replace G0 := Lib.hid encG; have OG0 := Lib.hid ownG; clear encG ownG
  have GSZ := Lib.hid (Ext.sz XX.out)
  have NIG : Hid (u7.heap.size ∉ FG0) := Lib.hid (fun hx => Nat.lt_irrefl _ (OG0.out.lt hx))
  have loG0 : ∀ k ∈ FG0, u6.heap.size ≤ k := fun k hk => (OG0.out.2 k hk).1
  refine abs_world (fun W => Ext u7 W ∧ Bk W u7.heap.size [.slice gp0_0 (M.forget m n).Plan.Parts.length gq0_0, .slice gp0_1 (M.forget m n).Plan.Channels.length gq0_1, .slice gp0_2 (M.forget m n).Plan.Slots.length gq0_2, .slice gp0_3 (M.forget m n).Programs.length gq0_3, .slice gp0_4 (M.forget m n).Cores.length gq0_4, .slice gp0_5 (M.forget m n).Holds.length gq0_5, .int .i64 (M.forget m n).Tick] 42) ⟨(Ext.refl _).alloc _, Bk.new _ _ _⟩ ?_
  rintro u8 ⟨y, KG0⟩
  replace XX := Lib.hid (XX.out.tr y); replace KG0 := Lib.hid KG0; have YY := Lib.hid y; clear y
  replace G0 := Lib.hid (GT.ext G0.out YY.out); replace OG0 := Lib.hid (OG0.out.ext YY.out)
  clear YY
  replace E := Lib.hid (E.out.tr XX.out); replace KA0 := Lib.hid (KA0.out.ext XX.out); replace KS0 := Lib.hid (KS0.out.ext XX.out); replace EA := Lib.hid (EA.out.tr XX.out); replace KX0 := Lib.hid (KX0.out.ext XX.out)
  replace X0 := Lib.hid (GT.ext X0.out XX.out); replace OX0 := Lib.hid (OX0.out.ext XX.out)
  clear XX
  have ltb0 : u6.heap.size ≤ u7.heap.size := GSZ.out
  have notinG : u7.heap.size ∉ FG0 := NIG.out
  have hb0 := Eqb.t (rfl : ((M.forget m n)) = (M.forget m n))
  have ha0 := Eqb.t (rfl : m = m)
  have fG0_0 := KG0.out.cell (j := 0) rfl
  have fG0_1 := KG0.out.cell (j := 1) rfl
  have fG0_2 := KG0.out.cell (j := 2) rfl
  have fG0_3 := KG0.out.cell (j := 3) rfl
  have fG0_4 := KG0.out.cell (j := 4) rfl
  have fG0_5 := KG0.out.cell (j := 5) rfl
  have fG0_6 := KG0.out.cell (j := 6) rfl
  have fS0_0 := KS0.out.cell (j := 0) rfl
  have fS0_1 := KS0.out.cell (j := 1) rfl
  have fS0_2 := KS0.out.cell (j := 2) rfl
  have fS0_3 := KS0.out.cell (j := 3) rfl
  have fS0_4 := KS0.out.cell (j := 4) rfl
  have fS0_5 := KS0.out.cell (j := 5) rfl
  have fS0_6 := KS0.out.cell (j := 6) rfl
  go_upto_region 10 with (go_at_call 13; refine (eqMachine _ _ _ _ _ ⟨_, _, rfl, G0.out⟩ (HW0.out.ext EA.out)).mono ?_; rintro e u9 ⟨rfl, he⟩; have X := Lib.hid he; clear he)
  clear fG0_0 fG0_1 fG0_2 fG0_3 fG0_4 fG0_5 fG0_6 fS0_0 fS0_1 fS0_2 fS0_3 fS0_4 fS0_5 fS0_6
  replace E := Lib.hid (E.out.tr X.out); replace KA0 := Lib.hid (KA0.out.ext X.out); replace KS0 := Lib.hid (KS0.out.ext X.out); replace EA := Lib.hid (EA.out.tr X.out); replace KX0 := Lib.hid (KX0.out.ext X.out); replace KG0 := Lib.hid (KG0.out.ext X.out)
  replace X0 := Lib.hid (GT.ext X0.out X.out); replace OX0 := Lib.hid (OX0.out.ext X.out)
  replace G0 := Lib.hid (GT.ext G0.out X.out); replace OG0 := Lib.hid (OG0.out.ext X.out)
  clear X
  have fX0_0 := KX0.out.cell (j := 0) rfl
  have fX0_1 := KX0.out.cell (j := 1) rfl
  have fX0_2 := KX0.out.cell (j := 2) rfl
  have fX0_3 := KX0.out.cell (j := 3) rfl
  have fX0_4 := KX0.out.cell (j := 4) rfl
  have fX0_5 := KX0.out.cell (j := 5) rfl
  have fX0_6 := KX0.out.cell (j := 6) rfl
  have fA0_0 := KA0.out.cell (j := 0) rfl
  have fA0_1 := KA0.out.cell (j := 1) rfl
  have fA0_2 := KA0.out.cell (j := 2) rfl
  have fA0_3 := KA0.out.cell (j := 3) rfl
  have fA0_4 := KA0.out.cell (j := 4) rfl
  have fA0_5 := KA0.out.cell (j := 5) rfl
  have fA0_6 := KA0.out.cell (j := 6) rfl
  have ltX0 := KX0.out.lt
  have ltA0 := KA0.out.lt
  go_wp2
  go_region_held3 (fun u => u.cell? ⟨u5.heap.size, 0, none⟩ = some (.slice p0_0 m.Plan.Parts.length q0_0) ∧ u.cell? ⟨u5.heap.size, 1, none⟩ = some (.slice p0_1 m.Plan.Channels.length q0_1) ∧ u.cell? ⟨u5.heap.size, 2, none⟩ = some (.slice p0_2 m.Plan.Slots.length q0_2) ∧ u.cell? ⟨u5.heap.size, 3, none⟩ = some (.slice p0_3 m.Programs.length q0_3) ∧ u.cell? ⟨u5.heap.size, 4, none⟩ = some (.slice p0_4 m.Cores.length q0_4) ∧ u.cell? ⟨u5.heap.size, 5, none⟩ = some (.slice p0_5 m.Holds.length q0_5) ∧ u.cell? ⟨u5.heap.size, 6, none⟩ = some (.int .i64 m.Tick) ∧ u.cell? ⟨w.heap.size, 0, none⟩ = some (.slice a0_0 m.Plan.Parts.length c0_0) ∧ u.cell? ⟨w.heap.size, 1, none⟩ = some (.slice a0_1 m.Plan.Channels.length c0_1) ∧ u.cell? ⟨w.heap.size, 2, none⟩ = some (.slice a0_2 m.Plan.Slots.length c0_2) ∧ u.cell? ⟨w.heap.size, 3, none⟩ = some (.slice a0_3 m.Programs.length c0_3) ∧ u.cell? ⟨w.heap.size, 4, none⟩ = some (.slice a0_4 m.Cores.length c0_4) ∧ u.cell? ⟨w.heap.size, 5, none⟩ = some (.slice a0_5 m.Holds.length c0_5) ∧ u.cell? ⟨w.heap.size, 6, none⟩ = some (.int .i64 m.Tick))
    (first
      | go_keep
      | exact ⟨(hcb _ _ ltX0).trans fX0_0, (hcb _ _ ltX0).trans fX0_1, (hcb _ _ ltX0).trans fX0_2, (hcb _ _ ltX0).trans fX0_3, (hcb _ _ ltX0).trans fX0_4, (hcb _ _ ltX0).trans fX0_5, (hcb _ _ ltX0).trans fX0_6, (hcb _ _ ltA0).trans fA0_0, (hcb _ _ ltA0).trans fA0_1, (hcb _ _ ltA0).trans fA0_2, (hcb _ _ ltA0).trans fA0_3, (hcb _ _ ltA0).trans fA0_4, (hcb _ _ ltA0).trans fA0_5, (hcb _ _ ltA0).trans fA0_6⟩)
    (first
      | (go_at_call 11; refine (toMachine _ m _ (H0.out.ext E.out.drew) S0.out).mono ?_; rintro e u10 ⟨v1, rfl, ho, he⟩; have X := Lib.hid ((Ext.refl _).drew.tr he); have HZ := Lib.hid ho.rv; obtain ⟨hcb, _⟩ := bcell X.out; obtain ⟨zp0_0, zq0_0, zp0_1, zq0_1, zp0_2, zq0_2, zp0_3, zq0_3, zp0_4, zq0_4, zp0_5, zq0_5, rfl, _⟩ := ho.rv.openMachine; clear ho he)
      | (go_at_call 13; refine (eqMachine _ _ _ _ _ ⟨_, _, rfl, GT.ext X0.out X.out⟩ HZ.out).mono ?_; rintro e u11 ⟨rfl, he⟩; have XX := Lib.hid (X.out.tr he); obtain ⟨hcb, _⟩ := bcell XX.out; clear he))
  clear hcb fX0_0 fX0_1 fX0_2 fX0_3 fX0_4 fX0_5 fX0_6 fA0_0 fA0_1 fA0_2 fA0_3 fA0_4 fA0_5 fA0_6 ltX0 ltA0 X HZ
  replace E := Lib.hid (E.out.tr XX.out); replace KA0 := Lib.hid (KA0.out.ext XX.out); replace KS0 := Lib.hid (KS0.out.ext XX.out); replace EA := Lib.hid (EA.out.tr XX.out); replace KX0 := Lib.hid (KX0.out.ext XX.out); replace KG0 := Lib.hid (KG0.out.ext XX.out)
  replace X0 := Lib.hid (GT.ext X0.out XX.out); replace OX0 := Lib.hid (OX0.out.ext XX.out)
  replace G0 := Lib.hid (GT.ext G0.out XX.out); replace OG0 := Lib.hid (OG0.out.ext XX.out)
  clear XX
  have fX0_0 := KX0.out.cell (j := 0) rfl
  have fX0_1 := KX0.out.cell (j := 1) rfl
  have fX0_2 := KX0.out.cell (j := 2) rfl
  have fX0_3 := KX0.out.cell (j := 3) rfl
  have fX0_4 := KX0.out.cell (j := 4) rfl
  have fX0_5 := KX0.out.cell (j := 5) rfl
  have fX0_6 := KX0.out.cell (j := 6) rfl
  have hct0 := ctT_Machine m
  have hS0 := S0.out
  go_upto_region 14 with (go_at_call 14; refine (markMachine _ m _ _ F0 X0.out OX0.out.1 (fun b hb => (OX0.out.2 b hb).2) (by omega) (by omega)).mono ?_; rintro e u12 ⟨rfl, _, hm⟩; have MX := Lib.hid (hm); clear hm; generalize hkk : (1 + (m.ctT : Nat) : Int) = kk0 at *; have hk0 : 0 ≤ kk0 := (by omega); have hk0b : kk0 ≤ 100000000 * 1 := (by omega); clear hkk)
  clear fX0_0 fX0_1 fX0_2 fX0_3 fX0_4 fX0_5 fX0_6
  replace E := Lib.hid (MX.out.ext E.out (fun x hx => Nat.le_trans (Nat.le_trans (Ext.sz WA.out) (Nat.le_refl _)) (loF0 x hx)))
  replace EA := Lib.hid (MX.out.ext EA.out (fun x hx => loF0 x hx))
  replace KA0 := Lib.hid (KA00.out.ext EA.out)
  replace KS0 := Lib.hid (KS00.out.ext EA.out)
  replace G0 := Lib.hid (MX.out.enc G0.out (fun y hy hx => by have h1 := loG0 y hy; have h2 := ltF0 y hx; omega)); replace OG0 := Lib.hid (MX.out.own OG0.out)
  replace KG0 := Lib.hid (MX.out.bk KG0.out (fun hx => by have h2 := ltF0 _ hx; have h3 := ltb0; omega))
  replace KX0 := Lib.hid (MX.out.bk KX0.out (fun hx => notin0_0 hx))
  clear MX hct0 hS0
  have fG0_0 := KG0.out.cell (j := 0) rfl
  have fG0_1 := KG0.out.cell (j := 1) rfl
  have fG0_2 := KG0.out.cell (j := 2) rfl
  have fG0_3 := KG0.out.cell (j := 3) rfl
  have fG0_4 := KG0.out.cell (j := 4) rfl
  have fG0_5 := KG0.out.cell (j := 5) rfl
  have fG0_6 := KG0.out.cell (j := 6) rfl
  have fS0_0 := KS0.out.cell (j := 0) rfl
  have fS0_1 := KS0.out.cell (j := 1) rfl
  have fS0_2 := KS0.out.cell (j := 2) rfl
  have fS0_3 := KS0.out.cell (j := 3) rfl
  have fS0_4 := KS0.out.cell (j := 4) rfl
  have fS0_5 := KS0.out.cell (j := 5) rfl
  have fS0_6 := KS0.out.cell (j := 6) rfl
  go_upto_region 16 with (go_at_call 13; refine (eqMachine _ _ _ _ _ ⟨_, _, rfl, G0.out⟩ (HW0.out.ext EA.out)).mono ?_; rintro e u13 ⟨rfl, he⟩; have X := Lib.hid he; clear he)
  clear fG0_0 fG0_1 fG0_2 fG0_3 fG0_4 fG0_5 fG0_6 fS0_0 fS0_1 fS0_2 fS0_3 fS0_4 fS0_5 fS0_6
  replace E := Lib.hid (E.out.tr X.out); replace KA0 := Lib.hid (KA0.out.ext X.out); replace KS0 := Lib.hid (KS0.out.ext X.out); replace EA := Lib.hid (EA.out.tr X.out); replace KX0 := Lib.hid (KX0.out.ext X.out); replace KG0 := Lib.hid (KG0.out.ext X.out)
  replace G0 := Lib.hid (GT.ext G0.out X.out); replace OG0 := Lib.hid (OG0.out.ext X.out)
  clear X X0 OX0
  have fG0_0 := KG0.out.cell (j := 0) rfl
  have fG0_1 := KG0.out.cell (j := 1) rfl
  have fG0_2 := KG0.out.cell (j := 2) rfl
  have fG0_3 := KG0.out.cell (j := 3) rfl
  have fG0_4 := KG0.out.cell (j := 4) rfl
  have fG0_5 := KG0.out.cell (j := 5) rfl
  have fG0_6 := KG0.out.cell (j := 6) rfl
  have hcY : (M.forget m n).ctT ≤ 100000000 := M.forget_ct m n
  go_upto_region 18 with (go_at_call 14; refine (markMachine _ (M.forget m n) _ _ FG0 G0.out OG0.out.1 (fun b hb => (OG0.out.2 b hb).2) (by omega) (by omega)).mono ?_; rintro e u14 ⟨rfl, hs, hm⟩; have GM := Lib.hid hs; have MX := Lib.hid (hm); clear hs hm; generalize hmm : (1 + ((M.forget m n).ctT : Nat) : Int) = mm at *; have HM := Lib.hid hmm; have hm0 : 0 ≤ mm := (by omega); clear hmm)
  clear fG0_0 fG0_1 fG0_2 fG0_3 fG0_4 fG0_5 fG0_6
  replace E := Lib.hid (MX.out.ext E.out (fun x hx => Nat.le_trans (Nat.le_trans (Ext.sz WA.out) (Ext.sz AB.out)) (loG0 x hx)))
  replace EA := Lib.hid (MX.out.ext EA.out (fun x hx => Nat.le_trans (Ext.sz AB.out) (loG0 x hx)))
  replace KA0 := Lib.hid (KA00.out.ext EA.out)
  replace KS0 := Lib.hid (KS00.out.ext EA.out)
  replace KG0 := Lib.hid (MX.out.bk KG0.out (fun hx => notinG hx))
  clear MX G0 OG0
  have HI : Hid (((M.forget m n).mkT 1).mkT 1 = (M.forget m n).mkT 1) := Lib.hid (mkT_idem_Machine _ _)
  have HC : Hid (((M.forget m n).mkT 1).ctT = (M.forget m n).ctT) := Lib.hid (mkT_ct_Machine _ _)
  have fG0_0 := KG0.out.cell (j := 0) rfl
  have fG0_1 := KG0.out.cell (j := 1) rfl
  have fG0_2 := KG0.out.cell (j := 2) rfl
  have fG0_3 := KG0.out.cell (j := 3) rfl
  have fG0_4 := KG0.out.cell (j := 4) rfl
  have fG0_5 := KG0.out.cell (j := 5) rfl
  have fG0_6 := KG0.out.cell (j := 6) rfl
  go_upto_region 24 with (go_at_call 15; refine (heldMachine _ _ _ _ ⟨_, _, rfl, GM.out⟩ HI.out (by omega) (by have := HC.out; omega)).mono ?_; rintro e u15 ⟨he, hx⟩; have X := Lib.hid hx; clear hx; rw [HC.out, HM.out] at he; subst he)
  clear fG0_0 fG0_1 fG0_2 fG0_3 fG0_4 fG0_5 fG0_6
  replace E := Lib.hid (E.out.tr X.out); replace KA0 := Lib.hid (KA0.out.ext X.out); replace KS0 := Lib.hid (KS0.out.ext X.out); replace EA := Lib.hid (EA.out.tr X.out); replace KG0 := Lib.hid (KG0.out.ext X.out)
  replace GM := Lib.hid (GT.ext GM.out X.out)
  clear X
  have fA0_0 := KA0.out.cell (j := 0) rfl
  have fA0_1 := KA0.out.cell (j := 1) rfl
  have fA0_2 := KA0.out.cell (j := 2) rfl
  have fA0_3 := KA0.out.cell (j := 3) rfl
  have fA0_4 := KA0.out.cell (j := 4) rfl
  have fA0_5 := KA0.out.cell (j := 5) rfl
  have fA0_6 := KA0.out.cell (j := 6) rfl
  go_upto_region 25 with (first
    | (go_at_call 11; refine (toMachine _ m _ (H0.out.ext E.out) S0.out).mono ?_; rintro e u16 ⟨v1, rfl, ho, he⟩; have HC0_0 := Lib.hid ho.rv; have X0 := Lib.hid (he); obtain ⟨hp0_0, hq0_0, hp0_1, hq0_1, hp0_2, hq0_2, hp0_3, hq0_3, hp0_4, hq0_4, hp0_5, hq0_5, rfl, _⟩ := ho.rv.openMachine; clear ho he)
    | (go_at_call 28; refine (impl_ForgetOthers _ m n _ HC0_0.out).mono ?_; rintro e u17 ⟨v0, rfl, ho0, he⟩; have XX := Lib.hid (X0.out.tr he); have N0 := Lib.hid ho0.rv; obtain ⟨hp0_0, hq0_0, hp0_1, hq0_1, hp0_2, hq0_2, hp0_3, hq0_3, hp0_4, hq0_4, hp0_5, hq0_5, rfl, _⟩ := ho0.rv.openMachine; clear ho0 he))
  clear fA0_0 fA0_1 fA0_2 fA0_3 fA0_4 fA0_5 fA0_6
  refine abs_world (fun W => Ext u17 W ∧ Bk W u17.heap.size [.slice hp0_0 (M.forget m n).Plan.Parts.length hq0_0, .slice hp0_1 (M.forget m n).Plan.Channels.length hq0_1, .slice hp0_2 (M.forget m n).Plan.Slots.length hq0_2, .slice hp0_3 (M.forget m n).Programs.length hq0_3, .slice hp0_4 (M.forget m n).Cores.length hq0_4, .slice hp0_5 (M.forget m n).Holds.length hq0_5, .int .i64 (M.forget m n).Tick] 42) ⟨(Ext.refl _).alloc _, Bk.new _ _ _⟩ ?_
  rintro u18 ⟨y, KN0⟩
  replace XX := Lib.hid (XX.out.tr y); replace KN0 := Lib.hid KN0; have YY := Lib.hid y; clear y
  replace N0 := Lib.hid (N0.out.ext YY.out); clear YY
  replace E := Lib.hid (E.out.tr XX.out); replace KA0 := Lib.hid (KA0.out.ext XX.out); replace KS0 := Lib.hid (KS0.out.ext XX.out); replace EA := Lib.hid (EA.out.tr XX.out); replace KG0 := Lib.hid (KG0.out.ext XX.out)
  replace GM := Lib.hid (GT.ext GM.out XX.out); clear XX
  clear X0 HC0_0
  have fN0_0 := KN0.out.cell (j := 0) rfl
  have fN0_1 := KN0.out.cell (j := 1) rfl
  have fN0_2 := KN0.out.cell (j := 2) rfl
  have fN0_3 := KN0.out.cell (j := 3) rfl
  have fN0_4 := KN0.out.cell (j := 4) rfl
  have fN0_5 := KN0.out.cell (j := 5) rfl
  have fN0_6 := KN0.out.cell (j := 6) rfl
  have fS0_0 := KS0.out.cell (j := 0) rfl
  have fS0_1 := KS0.out.cell (j := 1) rfl
  have fS0_2 := KS0.out.cell (j := 2) rfl
  have fS0_3 := KS0.out.cell (j := 3) rfl
  have fS0_4 := KS0.out.cell (j := 4) rfl
  have fS0_5 := KS0.out.cell (j := 5) rfl
  have fS0_6 := KS0.out.cell (j := 6) rfl
  go_upto_region 27 with (go_at_call 13; refine (eqMachine _ _ _ _ _ N0.out (HW0.out.ext EA.out)).mono ?_; rintro e u19 ⟨rfl, he⟩; have X := Lib.hid he; clear he)
  clear fN0_0 fN0_1 fN0_2 fN0_3 fN0_4 fN0_5 fN0_6 fS0_0 fS0_1 fS0_2 fS0_3 fS0_4 fS0_5 fS0_6
  replace E := Lib.hid (E.out.tr X.out); replace KA0 := Lib.hid (KA0.out.ext X.out); replace KS0 := Lib.hid (KS0.out.ext X.out); replace EA := Lib.hid (EA.out.tr X.out); replace KG0 := Lib.hid (KG0.out.ext X.out); replace KN0 := Lib.hid (KN0.out.ext X.out)
  replace GM := Lib.hid (GT.ext GM.out X.out); clear X N0
  have fG0_0 := KG0.out.cell (j := 0) rfl
  have fG0_1 := KG0.out.cell (j := 1) rfl
  have fG0_2 := KG0.out.cell (j := 2) rfl
  have fG0_3 := KG0.out.cell (j := 3) rfl
  have fG0_4 := KG0.out.cell (j := 4) rfl
  have fG0_5 := KG0.out.cell (j := 5) rfl
  have fG0_6 := KG0.out.cell (j := 6) rfl
  go_wp2_with (go_at_call 15; refine (heldMachine _ _ _ _ ⟨_, _, rfl, GM.out⟩ HI.out (by omega) (by have := HC.out; omega)).mono ?_; rintro e u20 ⟨he, hx⟩; have X := Lib.hid hx; clear hx; rw [HC.out, HM.out] at he; subst he)
  go_ret
  exact ⟨rfl, E.out.tr X.out⟩
end Sk
