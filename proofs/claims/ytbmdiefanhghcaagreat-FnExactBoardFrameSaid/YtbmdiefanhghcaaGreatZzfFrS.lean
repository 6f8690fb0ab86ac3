/- Contracts of functions of the given program, each under the condition that it states. -/
import Derived.Test.YtbmdiefanhghcaaGreatChecked
import Derived.Deep.CutBlock
import Derived.Deep.CutRange
import Derived.Test.YtbmdiefanhghcaaGreatZzeCwS
import Derived.Test.YtbmdiefanhghcaaGreatXRun
import Derived.Test.YtbmdiefanhghcaaGreatRefc
import Derived.Test.YtbmdiefanhghcaaGreatTot
namespace Sk
open Go Go.Proofs Go.RowKit
set_option maxHeartbeats 4000000
set_option maxRecDepth 100000
set_option linter.unusedVariables false
set_option linter.unusedSimpArgs false
theorem spec_BoardFrame (v : Value) (x : Board) (w : World) (h : Rv w v x) (hn : GT.tot x ≤ 1048576) :
  Calls Tryz.prog 21 #[v] w fun e w' => ∃ v', e = .returned v' ∧ Ov w.heap.size w' v' (M.frB x) ∧ Ext w w' := by
 obtain ⟨a0, c0, a1, c1, rfl, h0, l0, h1, l1⟩ := h.openBoard
 clear h
 go_enter Tryz.func21, Tryz.ntmps21
 go_upto_region 1 with (fail)
 refine abs_world (fun W => Ext w W ∧ Bk W w.heap.size [.slice a0 x.Boxes.length c0, .slice a1 x.Wires.length c1] 68 ∧ Bk W (w.heap.size + 1) [.slice none 0 0, .slice none 0 0] 68) ⟨((Ext.refl _).alloc _).alloc _, (Bk.new _ _ _).ext ((Ext.refl _).alloc _), Bk.new1 _ _ _ _⟩ ?_
 rintro W ⟨e1, kA, kB⟩
 have E := zh e1
 have KA := zh kA
 have KB := zh kB
 obtain ⟨d0, d1⟩ := Bk.k2 kA
 have LTB := zh kB.lt
 clear e1 kA kB
 go_upto_region 2 with (go_at_call 51; refine (spec_l1OwnBoard _ x _ (Rv.mkBoard (h0.out.ext E.out) (h1.out.ext E.out)) hn).mono ?_; rintro e w1 ⟨v1, rfl, hov, he⟩; obtain ⟨p0, q0, p1, q1, F0, F1, rfl, s0, s1, hF⟩ := hov.openBd2; have HE := zh he; obtain ⟨x0, x1⟩ := Bk.k2 (KA.out.ext he); have xf := (KA.out.ext he).fz; have ltA1 := (KA.out.ext he).lt; have S0 := zh s0; have S1 := zh s1; have HF := zh hF; clear hov he s0 s1 hF)
 have hs0 := E.out.sz
 have hs1 := LTB.out
 refine abs_world (fun W2 => Ext w W2 ∧ Bk W2 w.heap.size [.slice p0 x.Boxes.length q0, .slice p1 x.Wires.length q1] 68 ∧ Bk W2 (w.heap.size + 1) [.slice none 0 0, .slice none 0 0] 68 ∧ Rs W2 (.slice p0 x.Boxes.length q0) x.Boxes ∧ Rs W2 (.slice p1 x.Wires.length q1) x.Wires) ⟨Ext.puts (b := w.heap.size) (o := 0) (Nat.le_refl _) [.slice p0 x.Boxes.length q0, .slice p1 x.Wires.length q1] (E.out.tr HE.out), (KA.out.ext HE.out).puts [.slice p0 x.Boxes.length q0, .slice p1 x.Wires.length q1] rfl, Bk.puts_ne (c := w.heap.size) (o := 0) (ds := [.slice p0 x.Boxes.length q0, .slice p1 x.Wires.length q1]) (KB.out.ext HE.out) (by omega), ⟨_, Sl.puts (c := w.heap.size) (o := 0) (ds := [.slice p0 x.Boxes.length q0, .slice p1 x.Wires.length q1]) S0.out (fun hm => by have := HF.out _ (.inl hm); omega)⟩, ⟨_, Sl.puts (c := w.heap.size) (o := 0) (ds := [.slice p0 x.Boxes.length q0, .slice p1 x.Wires.length q1]) S1.out (fun hm => by have := HF.out _ (.inr hm); omega)⟩⟩ ?_
 rintro W2 ⟨eW, kA, kB, r0, r1⟩
 have EW := zh eW
 clear h0 h1 x0 x1 xf ltA1 S0 S1 HF HE d0 d1
 have h0 := zh r0
 have h1 := zh r1
 have h0q := h0.out.form
 replace KA := zh kA
 replace KB := zh kB
 replace E := zh (Ext.refl W2)
 obtain ⟨d0, d1⟩ := Bk.k2 kA
 have ltA := kA.lt
 clear eW kA kB r0 r1
 cases g : M.bv x
 ·go_wp2_with (go_at_call 52; refine (spec_BoardValid _ x _ (Rv.mkBoard (h0.out.ext E.out) (h1.out.ext E.out))).mono ?_; rintro e w1 ⟨rfl, he⟩; rw [g]; have E1 := zh (E.out.tr he); have KA1 := zh (KA.out.ext he); have KB1 := zh (KB.out.ext he); obtain ⟨x0, x1⟩ := Bk.k2 KA1.out; have ltA1 := KA1.out.lt; obtain ⟨z0, z1⟩ := Bk.k2 KB1.out; have zf := KB1.out.fz; have ltZ := KB1.out.lt; clear he)
  refine bodyPost_ret (v := .agg #[.slice none 0 0, .slice none 0 0]) (by simp [results, Tryz.results21, go_sem, z0, z1]) rfl ⟨_, rfl, by rw [M.frB_f (.inl g)]; exact Ov.bz _ _, ((EW.out.tr E1.out).set (by simp) _).set (by simp) _⟩
 have hbv := M.bv_iff.1 g
 have HV := zh hbv
 have HG := zh g
 have hb3 := hbv.nb
 have hw6 := hbv.nw
 clear hbv h0q
 go_upto_region 5 with (go_at_call 52; refine (spec_BoardValid _ x _ (Rv.mkBoard (h0.out.ext E.out) (h1.out.ext E.out))).mono ?_; rintro e w1 ⟨rfl, he⟩; rw [g]; have E1 := zh (E.out.tr he); have KA1 := zh (KA.out.ext he); have KB1 := zh (KB.out.ext he); obtain ⟨x0, x1⟩ := Bk.k2 KA1.out; have ltA1 := KA1.out.lt; obtain ⟨z0, z1⟩ := Bk.k2 KB1.out; have zf := KB1.out.fz; have ltZ := KB1.out.lt; clear he)
 refine abs_world (fun u => Ext w1 u ∧ Bk u w1.heap.size [.slice none 0 0, .slice p1 x.Wires.length q1] 68) ⟨(Ext.refl _).alloc _, Bk.new _ _ _⟩ ?_
 rintro W4 ⟨e4, bb4⟩
 have BBw := zh bb4
 have ltB3 := bb4.lt
 have E4 := zh (E1.out.tr e4)
 have KA4 := zh (KA1.out.ext e4)
 have KB4 := zh (KB1.out.ext e4)
 have hs4 := e4.sz
 have hs5 := E1.out.sz
 have ltKA := KA4.out.lt
 have ltKB1 := KB1.out.lt
 have hwW := EW.out.sz
 generalize w1.heap.size = B at *
 clear e4 bb4 x0 x1 z0 z1 zf ltZ d0 d1
 go_wp2
 go_loopw [4] (fun i wr => ∃ (k : Nat) (g0 : Option Addr) (s0 r0 : Nat), k ≤ x.Boxes.length ∧ i = .int .i64 k ∧ Chg B 0 1 [] W4 wr ∧ wr.cell? ⟨B, 0, none⟩ = some (.slice g0 s0 r0) ∧ Oo 46 W4.heap.size wr (.slice g0 s0 r0) ((x.Boxes.take k).map (fun m => M.run m (M.fT m))) ∧ ∀ j m, j < k → x.Boxes[j]? = some m → m.Tick + M.fT m ≤ 100000) (fun i _ => x.Boxes.length - (intOf i).toNat)
 case atStart => exact ⟨0, _, _, _, Nat.zero_le _, rfl, Chg.refl _ _ _ _ _, BBw.out.cell (j := 0) rfl, Oo.nil _ _ _, fun j m hj => by omega⟩
 case round =>
  obtain ⟨k, g0, s0, r0, hk, rfl, hch, hc0, ho, hall⟩ := hrel
  have HC := zh hch
  have HO := zh ho
  have HALL := zh hall
  clear hch ho hall
  have BA := HC.out.bk KA4.out (by omega) (by simp)
  have lWr : W4.heap.size ≤ wr.heap.size := HC.out.sz
  have EWr := zh (HC.out.ext E4.out (by omega) (by simp))
  obtain ⟨a10, a11⟩ := Bk.k2 BA
  have ltA2 := BA.lt
  replace BA := zh BA
  by_cases hkt : k < x.Boxes.length
  ·obtain ⟨b, o, y, aa0, cc0, aa1, cc1, aa2, cc2, aa3, cc3, aa4, cc4, aa5, cc5, rfl, hb9, hx, j0, j1, j2, j3, j4, j5, j6, jr6, -, -, -, -, hs2, -, -, -, -, -, -, -, hv⟩ := h0.out.atMachine k hkt
   replace j0 := (cell_ext EWr.out hb9).trans j0
   replace j1 := (cell_ext EWr.out hb9).trans j1
   replace j2 := (cell_ext EWr.out hb9).trans j2
   replace j3 := (cell_ext EWr.out hb9).trans j3
   replace j4 := (cell_ext EWr.out hb9).trans j4
   replace j5 := (cell_ext EWr.out hb9).trans j5
   replace j6 := (cell_ext EWr.out hb9).trans j6
   have hmv := HV.out.box y (List.mem_of_getElem? hx.out)
   have HMV := zh hmv
   have hfl := M.fT_le hmv
   have hti := hmv.tick
   have hfk : ((M.tk y.Plan.Slots y.Plan.Slots.length : Int)) = M.fT y := ((M.SL.of hmv.ssv).fl_tk).symm
   have hssv : M.ssv y.Plan.Slots y.Cores.length = true := by rw [hmv.nc]; exact hmv.ssv
   have HSS := zh hssv
   clear hmv hssv
   obtain ⟨N, hN⟩ : ∃ N, M.fT y = N := ⟨_, rfl⟩
   rw [hN] at hfl hfk
   have HN2 := zh hN
   have HFK := zh hfk
   clear hN hfk
   go_upto_region 9 with (fail)
   refine abs_world (fun u => Ext wr u ∧ Bk u wr.heap.size [.slice aa0 y.Plan.Parts.length cc0, .slice aa1 y.Plan.Channels.length cc1, .slice aa2 y.Plan.Slots.length cc2, .slice aa3 y.Programs.length cc3, .slice aa4 y.Cores.length cc4, .slice aa5 y.Holds.length cc5, .int .i64 y.Tick] 46) ⟨(Ext.refl _).alloc _, Bk.new _ _ _⟩ ?_
   rintro W8 ⟨e8, k8⟩
   have z0 := k8.cell (j := 0) rfl
   have z2 := k8.cell (j := 2) rfl
   have z4 := k8.cell (j := 4) rfl
   have HK8 := zh k8
   have E8 := zh e8
   clear e8 k8 j0 j1 j2 j3 j4 j5 j6
   go_upto_region 10 with (go_at_call 53; refine (spec_FrameTicks _ y.Plan.Slots _ _ (hs2.out.ext (EWr.out.tr E8.out)) HSS.out).mono ?_; rintro e w9 ⟨rfl, he⟩; rw [HFK.out]; have E9 := zh he; have HK9 := zh (HK8.out.ext he); clear he)
   clear z0 z2 z4
   have lt5 := HK9.out.lt
   obtain ⟨z0, z1, z2, z3, z4, z5, z6⟩ := Bk.k7 HK9.out
   by_cases hT : y.Tick + N ≤ 100000
   ·have hgt : decide (y.Tick + (N : Int) > 100000) = false := decide_eq_false (by omega)
    have hgt2 : decide ((100000 : Int) < y.Tick + (N : Int)) = false := decide_eq_false (by omega)
    have HALL2 : Hid (∀ j m, j < k + 1 → x.Boxes[j]? = some m → m.Tick + M.fT m ≤ 100000) := zh (fun j mj hj hxj => by
     by_cases e : j = k
     ·subst e
      obtain rfl : mj = y := Option.some.inj (hxj.symm.trans hx.out)
      rw [HN2.out]; exact hT
     ·exact HALL.out j mj (by omega) hxj)
    have hrr0 := M.runM_t (M.runs_iff.2 ⟨HMV.out, ⟨by omega, by omega⟩, hT⟩ : M.runs y N 400 = true)
    obtain ⟨r, hr⟩ : ∃ r, M.run y N = r := ⟨_, rfl⟩
    have hrr := zh (hrr0.trans hr)
    have hst : Hid ((x.Boxes.take (k + 1)).map (fun m => M.run m (M.fT m)) = (x.Boxes.take k).map (fun m => M.run m (M.fT m)) ++ [r]) := zh (by rw [take_snoc hx.out, List.map_append, List.map_singleton, HN2.out, hr])
    clear hrr0 hr HALL
    go_upto_region 12 with (fail)
    have hWo : ∀ j, (Value.slice g0 s0 r0).ownBlock = some j → W4.heap.size ≤ j := HO.out.own
    have hWl : ∀ j, (Value.slice g0 s0 r0).ownBlock = some j → j < wr.heap.size := HO.out.lt
    have EQ9 := zh (E8.out.tr E9.out)
    have hsq := EQ9.out.sz
    replace hc0 := (cell_ext EQ9.out (by omega)).trans hc0
    replace HO := zh (HO.out.ext EQ9.out)
    replace HC := zh (HC.out.tr (Chg.ofExt EQ9.out (by omega)))
    replace EWr := zh (EWr.out.tr EQ9.out)
    have hf0 : ∀ j, w9.frozen? ⟨B, j, none⟩ = false := by
     obtain ⟨cs, T, hb⟩ := HC.out.fzk B ⟨_, _, BBw.out⟩
     exact hb.fz
    replace lWr : W4.heap.size ≤ w9.heap.size := by omega
    clear a10 a11 BA
    refine wp_region_grow rfl 8 [(41, [41]), (42, [42]), (43, [43]), (44, [44]), (45, [45]), (46, [46, 45]), (47, [47]), (48, [48])]
     (fun i vs u F => match i, vs with
       | 0, [y9] => y9 = .pointer (some ⟨B, 0, none⟩)
       | 1, [y9] => y9 = .slice g0 s0 r0
       | 2, [y9] => y9 = .agg #[.slice aa0 y.Plan.Parts.length cc0, .slice aa1 y.Plan.Channels.length cc1, .slice aa2 y.Plan.Slots.length cc2, .slice aa3 y.Programs.length cc3, .slice aa4 y.Cores.length cc4, .slice aa5 y.Holds.length cc5, .int .i64 y.Tick]
       | 3, [y9] => y9 = .int .i64 N
       | 4, [y9] => ∃ t0 u0 t1 u1 t2 u2 t3 u3 t4 u4 t5 u5, y9 = .agg #[.slice t0 r.Plan.Parts.length u0, .slice t1 r.Plan.Channels.length u1, .slice t2 r.Plan.Slots.length u2, .slice t3 r.Programs.length u3, .slice t4 r.Cores.length u4, .slice t5 r.Holds.length u5, .int .i64 r.Tick] ∧ GT.enc u [.slice t0 r.Plan.Parts.length u0, .slice t1 r.Plan.Channels.length u1, .slice t2 r.Plan.Slots.length u2, .slice t3 r.Programs.length u3, .slice t4 r.Cores.length u4, .slice t5 r.Holds.length u5, .int .i64 r.Tick] r F
       | 5, [y9, z9] => ∃ b0 cs, y9 = .slice (some ⟨b0, 0, none⟩) 1 1 ∧ z9 = .agg cs.toArray ∧ Bk u b0 cs 46
       | 6, [y9] => Oo 46 W4.heap.size u y9 ((x.Boxes.take k).map (fun m => M.run m (M.fT m)) ++ [r])
       | 7, [y9] => y9 = .pointer (some ⟨B, 0, none⟩)
       | _, _ => False) 6 (Value.slice g0 s0 r0).ownBlock HO.out.lt (by decide +kernel) ?_ ?_ ?_
    ·intro i hi hne oo ho U u F hG hd hap
     have hE := Ext.grown EWr.out hG (fun j hj => by have := hWo j hj; omega)
     have e0 := grown_cell hG hc0 (by omega) (fun j hj => by have := hWo j hj; omega)
     have i0 := grown_cell hG z0 lt5 (fun j hj => by have := hWl j hj; omega)
     have i1 := grown_cell hG z1 lt5 (fun j hj => by have := hWl j hj; omega)
     have i2 := grown_cell hG z2 lt5 (fun j hj => by have := hWl j hj; omega)
     have i3 := grown_cell hG z3 lt5 (fun j hj => by have := hWl j hj; omega)
     have i4 := grown_cell hG z4 lt5 (fun j hj => by have := hWl j hj; omega)
     have i5 := grown_cell hG z5 lt5 (fun j hj => by have := hWl j hj; omega)
     have i6 := grown_cell hG z6 lt5 (fun j hj => by have := hWl j hj; omega)
     rcases (by omega : i = 0 ∨ i = 1 ∨ i = 2 ∨ i = 3 ∨ i = 4 ∨ i = 5 ∨ i = 6 ∨ i = 7) with rfl | rfl | rfl | rfl | rfl | rfl | rfl | rfl
     ·cases ho
      simp only [fr]
      intro K hK
      go_wp2
      exact hK _ [] _ (Ext.refl u) (fun _ _ => rfl) (Own.nil _ _)
     ·cases ho
      simp only [fr]
      obtain ⟨⟨d0, -⟩, -⟩ := fa [0] (by decide +kernel) hd
      simp only [fu] at d0
      try simp only [d0]
      clear d0
      intro K hK
      go_wp2
      exact hK _ [] _ (Ext.refl u) (fun _ _ => rfl) (Own.nil _ _)
     ·cases ho
      simp only [fr]
      intro K hK
      go_wp2
      exact hK _ [] _ (Ext.refl u) (fun _ _ => rfl) (Own.nil _ _)
     ·cases ho
      simp only [fr]
      intro K hK
      go_wp2
      exact hK _ [] _ (Ext.refl u) (fun _ _ => rfl) (Own.nil _ _)
     ·cases ho
      simp only [fr]
      obtain ⟨⟨d2, -⟩, ⟨d3, -⟩, -⟩ := fa [2, 3] (by decide +kernel) hd
      simp only [fu] at d2 d3
      try simp only [d2, d3]
      intro K hK
      go_wp2_with (go_at_call 54; refine (spec_RunMachine _ y N _ (hv.out.ext hE) ⟨by omega, by omega⟩).mono ?_; rintro e w' ⟨v9, rfl, hov, ex1⟩; rw [hrr.out] at hov; obtain ⟨t0, u0, t1, u1, t2, u2, t3, u3, t4, u4, t5, u5, F2, rfl, en2, ow2⟩ := hov.openE)
      exact hK _ F2 _ ex1 (fun _ h => ⟨_, _, _, _, _, _, _, _, _, _, _, _, rfl, enc_grown en2 h (fun j hj e => by have := (ow2.2 j hj).1; have := HO.out.lt j e; have := hG.size; omega)⟩) ow2
     ·cases ho
      simp only [fr]
      obtain ⟨⟨d2, -⟩, ⟨d3, -⟩, ⟨d4, o4⟩, -⟩ := fa [2, 3, 4] (by decide +kernel) hd
      simp only [fu] at d2 d3 d4
      try simp only [d2, d3]
      obtain ⟨t0, u0, t1, u1, t2, u2, t3, u3, t4, u4, t5, u5, e8, _⟩ := d4
      simp only [e8]
      intro K hK
      go_wp2
      have b1 := Bk.new u [.slice t0 r.Plan.Parts.length u0, .slice t1 r.Plan.Channels.length u1, .slice t2 r.Plan.Slots.length u2, .slice t3 r.Programs.length u3, .slice t4 r.Cores.length u4, .slice t5 r.Holds.length u5, .int .i64 r.Tick] 46
      exact hK _ [] _ ((Ext.refl u).alloc _) (fun _ h => ⟨_, _, rfl, e8, b1.grown h (fun e => by have := HO.out.lt _ e; have := hG.size; omega)⟩) (Own.nil _ _)
     ·exact absurd rfl hne
     ·cases ho
      simp only [fr]
      obtain ⟨⟨d0, -⟩, ⟨d1, -⟩, ⟨d2, -⟩, ⟨d3, -⟩, ⟨d4, -⟩, ⟨d5, -⟩, ⟨d6, -⟩, -⟩ := fa [0, 1, 2, 3, 4, 5, 6] (by decide +kernel) hd
      simp only [fu] at d0 d1 d2 d3 d4 d5 d6
      clear d4 d5 d6
      try simp only [d0, d1, d2, d3]
      clear d0 d1 d2 d3
      intro K hK
      go_wp2
      exact hK _ [] _ (Ext.refl u) (fun _ _ => rfl) (Own.nil _ _)
    ·intro _ oo ho U u F hE hd hap
     cases ho
     simp only [fr]
     obtain ⟨⟨d0, -⟩, ⟨d1, -⟩, ⟨d2, -⟩, ⟨d3, -⟩, ⟨d4, o4⟩, ⟨d5, o5⟩, -⟩ := fa [0, 1, 2, 3, 4, 5] (by decide +kernel) hd
     simp only [fu] at d0 d1 d2 d3 d4 d5
     try simp only [d0, d1, d2, d3]
     obtain ⟨t0, u0, t1, u1, t2, u2, t3, u3, t4, u4, t5, u5, e8, n8⟩ := d4
     obtain ⟨b0, cs, d9, z9, b9⟩ := d5
     rw [e8] at z9
     obtain rfl : cs = [.slice t0 r.Plan.Parts.length u0, .slice t1 r.Plan.Channels.length u1, .slice t2 r.Plan.Slots.length u2, .slice t3 r.Programs.length u3, .slice t4 r.Cores.length u4, .slice t5 r.Holds.length u5, .int .i64 r.Tick] := (congrArg Array.toList (agg_inj z9)).symm
     simp only [d9]
     intro K hK
     refine wpl_appO (u := w9) (α := Machine) rfl _ _ 65 rfl 46 Tryz.underlying65 elMachine (v := .slice g0 s0 r0) (ys := [r]) rfl HO.out hE lWr rfl rfl (Row.one n8 (fun j y hj => by rw [Nat.zero_add]; exact b9.cell hj)) (by simp) o4 (by simp; omega) ?_
     intro v2 w2 hO2 hg2
     go_wp2
     exact hK _ [] _ hg2 (fun _ h => hO2.ext h) (Own.nil _ _)
    ·intro oo ho U u F hG hφ hap
     cases ho
     simp only [fr]
     obtain ⟨⟨d0, -⟩, ⟨d1, -⟩, ⟨d2, -⟩, ⟨d3, -⟩, ⟨d4, o4⟩, ⟨d5, o5⟩, ⟨d6, o6⟩, ⟨d7, -⟩, -⟩ := fb [0, 1, 2, 3, 4, 5, 6, 7] (by decide +kernel) hφ
     simp only [fu] at d0 d1 d2 d3 d4 d5 d6 d7
     try simp only [d0, d1, d2, d3, d7]
     clear d0 d1 d2 d3 d4 d5 d7 hap hφ
     have e0 := grown_cell hG hc0 (by omega) (fun j hj => by have := hWo j hj; omega)
     have f0 : u.frozen? ⟨B, 0, none⟩ = false := (World.frozen?_of_block (hG.block B (by omega) (fun e => by have := hWo B e.symm; omega))).trans (hf0 0)
     obtain ⟨p9, n9, q9, e9⟩ := d6.sh
     simp only [e9] at d6 ⊢
     have hCu := HC.out.grown hG hWo ltB3
     go_wp2
     exact ⟨⟨k + 1, _, _, _, by omega, by go_num, hCu.set ⟨by omega, by omega⟩ _, cell_set e0, by rw [hst.out]; exact d6.set ltB3 _, HALL2.out⟩, by simp [intOf]; omega⟩
   ·have hgt : decide (y.Tick + (N : Int) > 100000) = true := decide_eq_true (by omega)
    have hgt2 : decide ((100000 : Int) < y.Tick + (N : Int)) = true := decide_eq_true (by omega)
    have hok : Hid (M.okF x = false) := zh (by
     cases e : M.okF x
     ·rfl
     ·have := M.okF_iff.1 e y (List.mem_of_getElem? hx.out)
      rw [HN2.out] at this
      exact absurd this hT)
    have KBx := (HC.out.bk KB4.out (by omega) (by simp)).ext (E8.out.tr E9.out)
    clear z0 z1
    obtain ⟨z0, z1⟩ := Bk.k2 KBx
    have zf := KBx.fz
    have ltZ := KBx.lt
    have EF := zh (EWr.out.tr (E8.out.tr E9.out))
    clear KBx
    go_wp2
    refine bodyPost_ret (v := .agg #[.slice none 0 0, .slice none 0 0]) (by simp [results, Tryz.results21, go_sem, z0, z1]) rfl ⟨_, rfl, by rw [M.frB_f (.inr hok.out)]; exact Ov.bz _ _, ((EW.out.tr EF.out).set (by simp) _).set (by simp) _⟩
  ·obtain rfl : k = x.Boxes.length := by omega
   have hok : M.okF x = true := M.okF_iff.2 fun m hm => by
    obtain ⟨j, hj, rfl⟩ := List.getElem_of_mem hm
    exact HALL.out j _ hj (List.getElem?_eq_getElem hj)
   have HBV := zh (M.bv_iff.2 (M.runF_BV HV.out hok))
   have hl : (x.Boxes.take x.Boxes.length).map (fun m => M.run m (M.fT m)) = (M.runF x).Boxes := by rw [List.take_of_length_le (Nat.le_refl _)]; rfl
   rw [hl] at HO
   obtain ⟨r, hr⟩ : ∃ r, M.cw (M.runF x) = r := ⟨_, rfl⟩
   have EQ1 := zh ((M.copyWires_t HBV.out).trans hr)
   have EQ2 : Hid (M.frB x = r) := zh ((M.frB_t HG.out hok).trans hr)
   obtain ⟨_, BZ⟩ := HC.out.one BBw.out (by simp) hc0
   obtain ⟨u0, u1⟩ := Bk.k2 BZ
   have hRV : Hid (Rv wr (.agg #[.slice g0 s0 r0, .slice p1 x.Wires.length q1]) (M.runF x)) := zh (Rv.mkBoard HO.out.rs (h1.out.ext EWr.out))
   have KB5 := zh (HC.out.bk KB4.out (by omega) (by simp))
   clear hl hr hok HALL
   go_wp2_with (go_at_call 29; refine (spec_CopyWires _ (M.runF x) _ hRV.out).mono ?_; rintro e w6 ⟨v6, rfl, hov, he⟩; rw [EQ1.out] at hov; obtain ⟨b0, n0, b1, n1, F6, rfl, hen6, how6⟩ := hov.openBd; have E6 := zh (EWr.out.tr he); have HEN6 := zh hen6; have HOW6 := zh how6; have KBx := KB5.out.ext he; obtain ⟨z0, z1⟩ := Bk.k2 KBx; have zf := KBx.fz; have ltZ := KBx.lt; have hsz6 := he.sz; clear hov he hen6 how6 KBx)
   have hZ : w.heap.size + 1 ∉ F6 := fun hm => by have := (HOW6.out.2 _ hm).1; omega
   refine bodyPost_ret (v := .agg #[.slice b0 r.Boxes.length n0, .slice b1 r.Wires.length n1]) (by simp [results, Tryz.results21, go_sem, z0, z1]) rfl ⟨_, rfl, by rw [EQ2.out]; exact ⟨_, _, rfl, enc_puts (c := w.heap.size + 1) (o := 0) (ds := [.slice b0 r.Boxes.length n0, .slice b1 r.Wires.length n1]) HEN6.out hZ, ((HOW6.out.mono (by omega)).puts (b := w.heap.size + 1) (o := 0) [.slice b0 r.Boxes.length n0, .slice b1 r.Wires.length n1])⟩, ?_⟩
   exact Ext.puts (b := w.heap.size + 1) (o := 0) (by omega) [.slice b0 r.Boxes.length n0, .slice b1 r.Wires.length n1] (EW.out.tr E6.out)
end Sk
