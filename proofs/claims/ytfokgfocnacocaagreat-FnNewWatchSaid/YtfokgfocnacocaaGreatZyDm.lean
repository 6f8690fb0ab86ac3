/- Contracts of functions of the given program, each under the condition that it states. -/
import Derived.Test.YtfokgfocnacocaaGreatChecked
import Derived.Deep.CutBlock
import Derived.Deep.CutRange
import Derived.Test.YtfokgfocnacocaaGreatZxMch
import Derived.Test.YtfokgfocnacocaaGreatSame
import Derived.Test.YtfokgfocnacocaaGreatBuild
import Derived.Test.YtfokgfocnacocaaGreatOwn
import Derived.Test.YtfokgfocnacocaaGreatTypes
import Derived.Test.YtfokgfocnacocaaGreatApp
import Derived.Test.YtfokgfocnacocaaGreatNumsS
import Derived.Test.YtfokgfocnacocaaGreatZjHth
import Derived.Test.YtfokgfocnacocaaGreatAcc
import Derived.Test.YtfokgfocnacocaaGreatDraw
namespace Sk
open Go Go.Proofs Go.RowKit
set_option maxHeartbeats 4000000
set_option maxRecDepth 100000
set_option linter.unusedVariables false
set_option linter.unusedSimpArgs false
theorem Rvb.openMc {L : Nat} {w : World} {v : Value} {x : Machine} (h : Rvb L w v x) : ∃ p0 q0 p1 q1 p2 q2 p3 q3 p4 q4 p5 q5, v = .agg #[.slice p0 x.Plan.Parts.length q0, .slice p1 x.Plan.Channels.length q1, .slice p2 x.Plan.Slots.length q2, .slice p3 x.Programs.length q3, .slice p4 x.Cores.length q4, .slice p5 x.Holds.length q5, .int .i64 x.Tick] ∧ x.Cores.length ≤ 9223372036854775807 := by
 obtain ⟨cs, F, rfl, ⟨v0, v1, v2, v3, v4, v5, F0, F1, F2, F3, F4, F5, rfl, ⟨_, _, rfl, _⟩, ⟨_, _, rfl, _⟩, ⟨_, _, rfl, _⟩, ⟨_, _, rfl, _⟩, h4, ⟨_, _, rfl, _⟩, _⟩, _⟩ := h
 obtain ⟨a4, c4, rfl, g4⟩ := Rs.form ⟨_, h4⟩
 exact ⟨_, _, _, _, _, _, _, _, _, _, _, _, rfl, g4⟩
theorem spec_DrawTickMachine (v : Value) (xs : List By) (w : World) (h : Rs w v xs) :
  Calls Tryz.prog 5 #[v] w fun e w' => ∃ v' x, e = .returned v' ∧ Rvb (α := Machine) w.heap.size w' v' x ∧ GT.tot x ≤ 200000 ∧ Ext w w' := by
 have H := zh h
 clear h
 go_enter Tryz.func5, Tryz.ntmps5
 go_upto_region 1 with (fail)
 refine abs_world (fun W0 => Ext w W0 ∧ Bk W0 w.heap.size [.slice none 0 0, .slice none 0 0, .slice none 0 0, .slice none 0 0, .slice none 0 0, .slice none 0 0, .int .i64 0] 32) ⟨(Ext.refl _).alloc _, Bk.new _ _ _⟩ ?_
 rintro W0 ⟨e0, kA⟩
 have HE0 := zh e0
 have KA := zh kA
 have hA := kA.lt
 clear e0 kA
 go_wp2_with (first
  | (go_at_call 21; refine (spec_l20Open _ _ _ (H.out.ext HE0.out)).mono ?_; rintro e w1 ⟨b, rfl, hb, he, hr⟩; have HE := zh he; have hs1 := he.sz; have HR : Hid (Rd W0 w1 b (0 + 1100)) := zh (hr.le (by omega)); clear he hr)
  | (go_at_call 20; refine (spec_l20Machine W0 _ b 0 9 HR.out ⟨by omega, by omega⟩).mono ?_; rintro e w2 ⟨v2, x, rfl, hv, htt, -, hm, hr⟩; obtain ⟨p0, q0, p1, q1, p2, q2, p3, q3, p4, q4, p5, q5, rfl, -⟩ := hv.openMc; have KA2 := hm.bk (KA.out.ext HE.out) (by simp; omega); obtain ⟨d0, d1, d2, d3, d4, d5, d6⟩ := Bk.k7 KA2; have df := KA2.fz; have dl := KA2.lt; have HV := zh hv; have HTT := zh htt; have HM2 := zh (hm.ext (HE0.out.tr HE.out) (by simp; omega)); clear hm hr hv htt KA2))
 refine bodyPost_ret (v := .agg #[.slice p0 x.Plan.Parts.length q0, .slice p1 x.Plan.Channels.length q1, .slice p2 x.Plan.Slots.length q2, .slice p3 x.Programs.length q3, .slice p4 x.Cores.length q4, .slice p5 x.Holds.length q5, .int .i64 x.Tick]) (by simp [results, Tryz.results5, go_sem, d0, d1, d2, d3, d4, d5, d6]) rfl ⟨_, x, rfl, ?_, HTT.out, ?_⟩
 ·exact (Rvb.puts (A := w.heap.size) (o := 0) (by omega) [.slice p0 x.Plan.Parts.length q0, .slice p1 x.Plan.Channels.length q1, .slice p2 x.Plan.Slots.length q2, .slice p3 x.Programs.length q3, .slice p4 x.Cores.length q4, .slice p5 x.Holds.length q5, .int .i64 x.Tick] HV.out).mono (by omega)
 ·exact Ext.puts (b := w.heap.size) (o := 0) (Nat.le_refl _) [.slice p0 x.Plan.Parts.length q0, .slice p1 x.Plan.Channels.length q1, .slice p2 x.Plan.Slots.length q2, .slice p3 x.Programs.length q3, .slice p4 x.Cores.length q4, .slice p5 x.Holds.length q5, .int .i64 x.Tick] HM2.out
theorem spec_DrawNewWatch (v : Value) (xs : List By) (w : World) (h : Rs w v xs) :
  Calls Tryz.prog 14 #[v] w fun e w' => ∃ v' x, e = .returned v' ∧ Rvb (α := Machine) w.heap.size w' v' x ∧ GT.tot x ≤ 200000 ∧ Ext w w' := by
 have H := zh h
 clear h
 go_enter Tryz.func14, Tryz.ntmps14
 go_upto_region 1 with (fail)
 refine abs_world (fun W0 => Ext w W0 ∧ Bk W0 w.heap.size [.slice none 0 0, .slice none 0 0, .slice none 0 0, .slice none 0 0, .slice none 0 0, .slice none 0 0, .int .i64 0] 32) ⟨(Ext.refl _).alloc _, Bk.new _ _ _⟩ ?_
 rintro W0 ⟨e0, kA⟩
 have HE0 := zh e0
 have KA := zh kA
 have hA := kA.lt
 clear e0 kA
 go_wp2_with (first
  | (go_at_call 21; refine (spec_l20Open _ _ _ (H.out.ext HE0.out)).mono ?_; rintro e w1 ⟨b, rfl, hb, he, hr⟩; have HE := zh he; have hs1 := he.sz; have HR : Hid (Rd W0 w1 b (0 + 1100)) := zh (hr.le (by omega)); clear he hr)
  | (go_at_call 20; refine (spec_l20Machine W0 _ b 0 6 HR.out ⟨by omega, by omega⟩).mono ?_; rintro e w2 ⟨v2, x, rfl, hv, htt, -, hm, hr⟩; obtain ⟨p0, q0, p1, q1, p2, q2, p3, q3, p4, q4, p5, q5, rfl, -⟩ := hv.openMc; have KA2 := hm.bk (KA.out.ext HE.out) (by simp; omega); obtain ⟨d0, d1, d2, d3, d4, d5, d6⟩ := Bk.k7 KA2; have df := KA2.fz; have dl := KA2.lt; have HV := zh hv; have HTT := zh htt; have HM2 := zh (hm.ext (HE0.out.tr HE.out) (by simp; omega)); clear hm hr hv htt KA2))
 refine bodyPost_ret (v := .agg #[.slice p0 x.Plan.Parts.length q0, .slice p1 x.Plan.Channels.length q1, .slice p2 x.Plan.Slots.length q2, .slice p3 x.Programs.length q3, .slice p4 x.Cores.length q4, .slice p5 x.Holds.length q5, .int .i64 x.Tick]) (by simp [results, Tryz.results14, go_sem, d0, d1, d2, d3, d4, d5, d6]) rfl ⟨_, x, rfl, ?_, HTT.out, ?_⟩
 ·exact (Rvb.puts (A := w.heap.size) (o := 0) (by omega) [.slice p0 x.Plan.Parts.length q0, .slice p1 x.Plan.Channels.length q1, .slice p2 x.Plan.Slots.length q2, .slice p3 x.Programs.length q3, .slice p4 x.Cores.length q4, .slice p5 x.Holds.length q5, .int .i64 x.Tick] HV.out).mono (by omega)
 ·exact Ext.puts (b := w.heap.size) (o := 0) (Nat.le_refl _) [.slice p0 x.Plan.Parts.length q0, .slice p1 x.Plan.Channels.length q1, .slice p2 x.Plan.Slots.length q2, .slice p3 x.Programs.length q3, .slice p4 x.Cores.length q4, .slice p5 x.Holds.length q5, .int .i64 x.Tick] HM2.out
set_option maxHeartbeats 8000000
theorem law_sameCore (v1 v2 : Value) (x : Core) (w : World) (h1 : Rv w v1 x) (h2 : Rv w v2 x) :
  Calls Tryz.prog 11 #[v1, v2] w fun e w' => e = .returned (.bool true) ∧ Ext w w' := by
 obtain ⟨a0, c0, rfl, r1, hs1, l1⟩ := h1.openCore
 obtain ⟨b0, d0, rfl, r2, hs2, l2⟩ := h2.openCore
 clear h1 h2
 go_enter Tryz.func11, Tryz.ntmps11
 go_upto_region 1 with (fail)
 refine abs_world (fun W => Ext w W ∧ Bk W w.heap.size [.slice a0 x.Cells.length c0, .int .i64 x.At, .bool x.Stopped] 41 ∧ Bk W (w.heap.size + 1) [.slice b0 x.Cells.length d0, .int .i64 x.At, .bool x.Stopped] 41) ⟨((Ext.refl _).alloc _).alloc _, (Bk.new _ _ _).ext ((Ext.refl _).alloc _), Bk.new1 _ _ _ _⟩ ?_
 rintro W ⟨e1, kA, kB⟩
 have E := zh e1
 have KA := zh kA
 have KB := zh kB
 have ltA := kA.lt
 have ltB := kB.lt
 obtain ⟨x0, x1, x2⟩ := Bk.k3 kA
 obtain ⟨y0, y1, y2⟩ := Bk.k3 kB
 clear e1 kA kB
 have q1 : (x.At == x.At) = true := by simp
 have q2 : (x.Stopped == x.Stopped) = true := by simp
 go_wp2_with (go_at_call 12; refine (law_sameInts _ _ x.Cells x.Cells _ (hs1.out.ext E.out) (hs2.out.ext E.out)).mono ?_; rintro e w1 ⟨rfl, he⟩; rw [Eqb.t (rfl : x.Cells = x.Cells)]; have E1 := zh (E.out.tr he); have p1 := (KA.out.ext he).cell (j := 1) rfl; have p2 := (KA.out.ext he).cell (j := 2) rfl; have s1 := (KB.out.ext he).cell (j := 1) rfl; have s2 := (KB.out.ext he).cell (j := 2) rfl; clear he)
 go_ret
 exact ⟨(by first | rfl | exact wp_cond_ret rfl | simp), E1.out⟩
theorem law_sameStates (v1 v2 : Value) (xs : List Health) (w : World) (hv1 : Rs w v1 xs) (hv2 : Rs w v2 xs) :
  Calls Tryz.prog 39 #[v1, v2] w fun e w' => e = .returned (.bool true) ∧ Ext w w' := by
 obtain ⟨a, c, rfl, hl⟩ := hv1.form
 obtain ⟨a2, c2, rfl, hl2⟩ := hv2.form
 have H1 := zh hv1
 have H2 := zh hv2
 clear hv1 hv2
 go_enter Tryz.func39, Tryz.ntmps39
 go_wp2
 go_loopw [5] (fun i wr => ∃ k : Nat, k ≤ xs.length ∧ i = .int .i64 k ∧ Ext w wr) (fun i _ => xs.length - (intOf i).toNat)
 case atStart => exact ⟨0, Nat.zero_le _, rfl, .refl _⟩
 case round =>
  obtain ⟨k, hk, rfl, hq⟩ := hrel
  have HQ := zh hq
  clear hq
  by_cases hlt : k < xs.length
  ·obtain ⟨b, o, x, rfl, _, hx1, hc0, hc1, g1, _⟩ := (H1.out.ext HQ.out).atHealth k hlt
   obtain ⟨b2, o2, y, rfl, _, hx2, hd0, hd1, f1, _⟩ := (H2.out.ext HQ.out).atHealth k hlt
   obtain rfl : x = y := Option.some.inj (hx1.out.symm.trans hx2.out)
   clear H1 H2 hx1 hx2
   have q1 : (x.Frozen == x.Frozen) = true := by simp
   have q2 : (x.Restarts == x.Restarts) = true := by simp
   go_wp2
   go_quiet (fail)
   go_wp2
   go_roundw
   case rel => exact ⟨k + 1, by omega, by go_num, HQ.out.drewN _⟩
   case measure => simp [intOf]; omega
  ·clear H1 H2
   go_wp2
   go_ret
   exact ⟨rfl, HQ.out⟩
theorem law_sameMachine (v1 v2 : Value) (x : Machine) (w : World) (h1 : Rv w v1 x) (h2 : Rv w v2 x) :
  Calls Tryz.prog 7 #[v1, v2] w fun e w' => e = .returned (.bool true) ∧ Ext w w' := by
 obtain ⟨a0, c0, a1, c1, a2, c2, a3, c3, a4, c4, a5, c5, rfl, r6, h0, l0, h1', l1, h2', l2, h3, l3, h4, l4, h5, l5⟩ := h1.openMachine
 obtain ⟨b0, d0, b1, d1, b2, d2, b3, d3, b4, d4, b5, d5, rfl, s6, g0, m0, g1, m1, g2, m2, g3, m3, g4, m4, g5, m5⟩ := h2.openMachine
 clear h1 h2
 go_enter Tryz.func7, Tryz.ntmps7
 go_upto_region 1 with (fail)
 refine abs_world (fun W => Ext w W ∧ Bk W w.heap.size [.slice a0 x.Plan.Parts.length c0, .slice a1 x.Plan.Channels.length c1, .slice a2 x.Plan.Slots.length c2, .slice a3 x.Programs.length c3, .slice a4 x.Cores.length c4, .slice a5 x.Holds.length c5, .int .i64 x.Tick] 32 ∧ Bk W (w.heap.size + 1) [.slice b0 x.Plan.Parts.length d0, .slice b1 x.Plan.Channels.length d1, .slice b2 x.Plan.Slots.length d2, .slice b3 x.Programs.length d3, .slice b4 x.Cores.length d4, .slice b5 x.Holds.length d5, .int .i64 x.Tick] 32) ⟨((Ext.refl _).alloc _).alloc _, (Bk.new _ _ _).ext ((Ext.refl _).alloc _), Bk.new1 _ _ _ _⟩ ?_
 rintro W ⟨e1, kA, kB⟩
 have E := zh e1
 have KA := zh kA
 have KB := zh kB
 have ltA := kA.lt
 have ltB := kB.lt
 obtain ⟨x0, x1, x2, x3, x4, x5, x6⟩ := Bk.k7 kA
 obtain ⟨y0, y1, y2, y3, y4, y5, y6⟩ := Bk.k7 kB
 clear e1 kA kB
 have HS1 := zh (fun (u : World) (e : Ext w u) => spec_SetupNumbers _ x.Plan u (Rv.mkSetup (h0.out.ext e) (h1'.out.ext e) (h2'.out.ext e)))
 have HS2 := zh (fun (u : World) (e : Ext w u) => spec_SetupNumbers _ x.Plan u (Rv.mkSetup (g0.out.ext e) (g1.out.ext e) (g2.out.ext e)))
 obtain ⟨N, hN⟩ : ∃ N, M.numbers x.Plan = N := ⟨_, rfl⟩
 rw [hN] at HS1 HS2
 clear hN
 have qt : (x.Tick != x.Tick) = false := by simp
 go_region_held3 (fun u => u.cell? ⟨w.heap.size, 0, none⟩ = some (.slice a0 x.Plan.Parts.length c0) ∧ u.cell? ⟨w.heap.size, 1, none⟩ = some (.slice a1 x.Plan.Channels.length c1) ∧ u.cell? ⟨w.heap.size, 2, none⟩ = some (.slice a2 x.Plan.Slots.length c2) ∧ u.cell? ⟨w.heap.size, 3, none⟩ = some (.slice a3 x.Programs.length c3) ∧ u.cell? ⟨w.heap.size, 4, none⟩ = some (.slice a4 x.Cores.length c4) ∧ u.cell? ⟨w.heap.size, 5, none⟩ = some (.slice a5 x.Holds.length c5) ∧ u.cell? ⟨w.heap.size, 6, none⟩ = some (.int .i64 x.Tick) ∧ u.cell? ⟨w.heap.size + 1, 0, none⟩ = some (.slice b0 x.Plan.Parts.length d0) ∧ u.cell? ⟨w.heap.size + 1, 1, none⟩ = some (.slice b1 x.Plan.Channels.length d1) ∧ u.cell? ⟨w.heap.size + 1, 2, none⟩ = some (.slice b2 x.Plan.Slots.length d2) ∧ u.cell? ⟨w.heap.size + 1, 3, none⟩ = some (.slice b3 x.Programs.length d3) ∧ u.cell? ⟨w.heap.size + 1, 4, none⟩ = some (.slice b4 x.Cores.length d4) ∧ u.cell? ⟨w.heap.size + 1, 5, none⟩ = some (.slice b5 x.Holds.length d5) ∧ u.cell? ⟨w.heap.size + 1, 6, none⟩ = some (.int .i64 x.Tick))
  (go_keep)
  (first
   | (go_at_call 24; refine (HS1.out _ (E.out.tr (Ext.refl W).drew)).mono ?_; rintro e w4 ⟨v4, rfl, ho, he⟩; have HO4 := zh ho.rs; obtain ⟨p4, q4, rfl, _⟩ := ho.rs.form; have E4 := zh ((Ext.refl W).drew.tr he); clear ho he HS1; have KA4 := zh (KA.out.ext E4.out); have KB4 := zh (KB.out.ext E4.out); obtain ⟨z0, z1, z2, z3, z4, z5, z6⟩ := Bk.k7 KA4.out; obtain ⟨t0, t1, t2, t3, t4, t5, t6⟩ := Bk.k7 KB4.out; clear KA4 KB4)
   | (go_at_call 24; refine (HS2.out _ (E.out.tr E4.out)).mono ?_; rintro e w5 ⟨v5, rfl, ho, he⟩; have HO5 := zh ho.rs; obtain ⟨p5, q5, rfl, _⟩ := ho.rs.form; replace HO4 := zh (HO4.out.ext he); replace E4 := zh (E4.out.tr he); clear ho he; have KA4 := zh (KA.out.ext E4.out); have KB4 := zh (KB.out.ext E4.out); obtain ⟨z0, z1, z2, z3, z4, z5, z6⟩ := Bk.k7 KA4.out; obtain ⟨t0, t1, t2, t3, t4, t5, t6⟩ := Bk.k7 KB4.out; clear KA4 KB4)
   | (go_at_call 12; refine (law_sameInts _ _ N N _ HO4.out HO5.out).mono ?_; rintro e w6 ⟨rfl, he⟩; rw [Eqb.t (rfl : N = N)]; replace E4 := zh (E4.out.tr he); clear he; have KA4 := zh (KA.out.ext E4.out); have KB4 := zh (KB.out.ext E4.out); obtain ⟨z0, z1, z2, z3, z4, z5, z6⟩ := Bk.k7 KA4.out; obtain ⟨t0, t1, t2, t3, t4, t5, t6⟩ := Bk.k7 KB4.out; clear KA4 KB4))
 clear x0 y0 x1 y1 x2 y2 x3 y3 x4 y4 x5 y5 x6 y6
 have x3 := (KA.out.ext E4.out).cell (j := 3) rfl
 have lA3 := (KA.out.ext E4.out).lt
 go_wp2
 go_loopw [5] (fun i wr => ∃ k : Nat, k ≤ x.Programs.length ∧ i = .int .i64 k ∧ Ext W wr) (fun i _ => x.Programs.length - (intOf i).toNat)
 case atStart => exact ⟨0, Nat.zero_le _, rfl, E4.out⟩
 case round =>
  obtain ⟨k, hk, rfl, er⟩ := hrel
  have ER := zh er
  have ka := KA.out.ext er
  have kb := KB.out.ext er
  have u3 := ka.cell (j := 3) rfl
  have v3 := kb.cell (j := 3) rfl
  have lua := ka.lt
  have lub := kb.lt
  clear er
  by_cases hkt : k < x.Programs.length
  ·obtain ⟨b, o, p, pa, pc, rfl, hb, hx, hp0, hs0, hl0⟩ := (h3.out.ext (E.out.tr ER.out)).atList k hkt
   obtain ⟨b2, o2, p2, qa, qc, rfl, hb2, hx2, hq0, hs2, hl2⟩ := (g3.out.ext (E.out.tr ER.out)).atList k hkt
   obtain rfl : p2 = p := Option.some.inj (hx2.out.symm.trans hx.out)
   clear hx hx2
   clear ka kb
   go_wp2
   go_region_held3 (fun u => u.cell? ⟨w.heap.size, 3, none⟩ = some (.slice (some ⟨b, o, none⟩) x.Programs.length c3) ∧ u.cell? ⟨w.heap.size + 1, 3, none⟩ = some (.slice (some ⟨b2, o2, none⟩) x.Programs.length d3) ∧ u.cell? ⟨b, o + k, none⟩ = some (.slice pa p2.length pc) ∧ u.cell? ⟨b2, o2 + k, none⟩ = some (.slice qa p2.length qc))
    (go_keep)
    ((go_at_call 25; refine (law_sameOrders _ _ p2 p2 _ (hs0.out.ext (Ext.refl wr).drew) (hs2.out.ext (Ext.refl wr).drew)).mono ?_; rintro e w9 ⟨rfl, he⟩; rw [Eqb.t (rfl : p2 = p2)]; have E9 := zh ((Ext.refl wr).drew.tr he); have q0 := (cell_ext E9.out lua).trans u3; have q1 := (cell_ext E9.out lub).trans v3; have q2 := (cell_ext E9.out hb).trans hp0; have q3 := (cell_ext E9.out hb2).trans hq0; clear he))
   go_wp2
   exact ⟨⟨k + 1, by omega, by go_num, ER.out.tr E9.out⟩, by simp [intOf]; omega⟩
  ·obtain rfl : k = x.Programs.length := by omega
   have u4 := ka.cell (j := 4) rfl
   clear ka kb v3
   obtain ⟨wo, rfl⟩ : ∃ wo, wo = wr := ⟨_, rfl⟩
   go_wp2
   go_loopw [6] (fun i wr => ∃ k : Nat, k ≤ x.Cores.length ∧ i = .int .i64 k ∧ Ext W wr) (fun i _ => x.Cores.length - (intOf i).toNat)
   case atStart => exact ⟨0, Nat.zero_le _, rfl, ER.out⟩
   case round =>
    obtain ⟨k, hk, rfl, er⟩ := hrel
    have ER := zh er
    have ka := KA.out.ext er
    have kb := KB.out.ext er
    have u4 := ka.cell (j := 4) rfl
    have v4 := kb.cell (j := 4) rfl
    have lua := ka.lt
    have lub := kb.lt
    clear er
    by_cases hkt : k < x.Cores.length
    ·obtain ⟨b, o, p, pa, pc, rfl, hb, hx, hp0, hp1, hp2, hr1, hs0, hl0, hv⟩ := (h4.out.ext (E.out.tr ER.out)).atCore k hkt
     obtain ⟨b2, o2, p2, qa, qc, rfl, hb2, hx2, hq0, hq1, hq2, hr2, hs2, hl2, hv2⟩ := (g4.out.ext (E.out.tr ER.out)).atCore k hkt
     obtain rfl : p2 = p := Option.some.inj (hx2.out.symm.trans hx.out)
     clear hx hx2 hs0 hs2
     clear ka kb
     go_wp2
     go_region_held3 (fun u => u.cell? ⟨w.heap.size, 4, none⟩ = some (.slice (some ⟨b, o, none⟩) x.Cores.length c4) ∧ u.cell? ⟨w.heap.size + 1, 4, none⟩ = some (.slice (some ⟨b2, o2, none⟩) x.Cores.length d4) ∧ u.cell? ⟨b, o + k * 3, none⟩ = some (.slice pa p2.Cells.length pc) ∧ u.cell? ⟨b, o + k * 3 + 1, none⟩ = some (.int .i64 p2.At) ∧ u.cell? ⟨b, o + k * 3 + 2, none⟩ = some (.bool p2.Stopped) ∧ u.cell? ⟨b2, o2 + k * 3, none⟩ = some (.slice qa p2.Cells.length qc) ∧ u.cell? ⟨b2, o2 + k * 3 + 1, none⟩ = some (.int .i64 p2.At) ∧ u.cell? ⟨b2, o2 + k * 3 + 2, none⟩ = some (.bool p2.Stopped))
      (go_keep)
      ((go_at_call 11; refine (law_sameCore _ _ p2 _ (hv.out.ext (Ext.refl wr).drew) (hv2.out.ext (Ext.refl wr).drew)).mono ?_; rintro e w9 ⟨rfl, he⟩; have E9 := zh ((Ext.refl wr).drew.tr he); have q0 := (cell_ext E9.out lua).trans u4; have q1 := (cell_ext E9.out lub).trans v4; have q2 := (cell_ext E9.out hb).trans hp0; have q3 := (cell_ext E9.out hb).trans hp1; have q4 := (cell_ext E9.out hb).trans hp2; have q5 := (cell_ext E9.out hb2).trans hq0; have q6 := (cell_ext E9.out hb2).trans hq1; have q7 := (cell_ext E9.out hb2).trans hq2; clear he))
     go_wp2
     exact ⟨⟨k + 1, by omega, by go_num, ER.out.tr E9.out⟩, by simp [intOf]; omega⟩
    ·obtain rfl : k = x.Cores.length := by omega
     have u5 := ka.cell (j := 5) rfl
     clear ka kb v4
     obtain ⟨wp, rfl⟩ : ∃ wp, wp = wr := ⟨_, rfl⟩
     go_wp2
     go_loopw [7] (fun i wr => ∃ k : Nat, k ≤ x.Holds.length ∧ i = .int .i64 k ∧ Ext W wr) (fun i _ => x.Holds.length - (intOf i).toNat)
     case atStart => exact ⟨0, Nat.zero_le _, rfl, ER.out⟩
     case round =>
      obtain ⟨k, hk, rfl, er⟩ := hrel
      have ER := zh er
      have ka := KA.out.ext er
      have kb := KB.out.ext er
      have u5 := ka.cell (j := 5) rfl
      have v5 := kb.cell (j := 5) rfl
      have lua := ka.lt
      have lub := kb.lt
      clear er
      by_cases hkt : k < x.Holds.length
      ·obtain ⟨b, o, p, pa, pc, rfl, hb, hx, hp0, hs0, hl0, hv⟩ := (h5.out.ext (E.out.tr ER.out)).atHold k hkt
       obtain ⟨b2, o2, p2, qa, qc, rfl, hb2, hx2, hq0, hs2, hl2, hv2⟩ := (g5.out.ext (E.out.tr ER.out)).atHold k hkt
       obtain rfl : p2 = p := Option.some.inj (hx2.out.symm.trans hx.out)
       clear hx hx2
       clear ka kb
       go_wp2
       go_region_held3 (fun u => u.cell? ⟨w.heap.size, 5, none⟩ = some (.slice (some ⟨b, o, none⟩) x.Holds.length c5) ∧ u.cell? ⟨w.heap.size + 1, 5, none⟩ = some (.slice (some ⟨b2, o2, none⟩) x.Holds.length d5) ∧ u.cell? ⟨b, o + k, none⟩ = some (.slice pa p2.Lst.length pc) ∧ u.cell? ⟨b2, o2 + k, none⟩ = some (.slice qa p2.Lst.length qc))
        (go_keep)
        ((go_at_call 12; refine (law_sameInts _ _ p2.Lst p2.Lst _ (hs0.out.ext (Ext.refl wr).drew) (hs2.out.ext (Ext.refl wr).drew)).mono ?_; rintro e w9 ⟨rfl, he⟩; rw [Eqb.t (rfl : p2.Lst = p2.Lst)]; have E9 := zh ((Ext.refl wr).drew.tr he); have q0 := (cell_ext E9.out lua).trans u5; have q1 := (cell_ext E9.out lub).trans v5; have q2 := (cell_ext E9.out hb).trans hp0; have q3 := (cell_ext E9.out hb2).trans hq0; clear he))
       go_wp2
       exact ⟨⟨k + 1, by omega, by go_num, ER.out.tr E9.out⟩, by simp [intOf]; omega⟩
      ·clear ka kb
       go_wp2
       go_ret
       exact ⟨rfl, E.out.tr ER.out⟩
set_option maxHeartbeats 1000000
theorem M.act_hold (cs : List Channel) (hs : List Hold) (n : Int) (c : Core) (o : Order) (k : Nat) (ch : Channel) (hk : cs[k]? = some ch) (h1 : ch.From ≠ n) (h2 : ch.To ≠ n) : (M.act cs hs n c o).2.1[k]? = hs[k]? := by
 have hne : ∀ ch', cs[o.A.toNat]? = some ch' → (ch'.From = n ∨ ch'.To = n) → o.A.toNat ≠ k := fun ch' h3 h4 e => by
  rw [e, hk] at h3
  cases h3
  exact h4.elim h1 h2
 unfold M.act
 split
 ·split
  ·split
   ·exact List.getElem?_set_ne (hne _ ‹_› (.inl ‹_›))
   ·rfl
  ·rfl
 split
 ·split
  ·split
   ·exact List.getElem?_set_ne (hne _ ‹_› (.inr ‹_›))
   ·rfl
  ·rfl
 ·rfl
theorem M.tick_hold (m : Machine) (k : Nat) (ch : Channel) (hk : m.Plan.Channels[k]? = some ch) (h1 : ch.From ≠ M.who m.Plan.Slots m.Tick) (h2 : ch.To ≠ M.who m.Plan.Slots m.Tick) : (M.tick m).Holds[k]? = m.Holds[k]? := by
 unfold M.tick
 split
 ·rfl
 ·rename_i h
  have e : (((M.who m.Plan.Slots m.Tick).toNat : Nat) : Int) = M.who m.Plan.Slots m.Tick := by omega
  exact M.act_hold _ _ _ _ _ k ch hk (by rw [e]; exact h1) (by rw [e]; exact h2)
theorem M.tick_core (m : Machine) (k : Nat) (h1 : (k : Int) ≠ M.who m.Plan.Slots m.Tick) : (M.tick m).Cores[k]? = m.Cores[k]? := by
 unfold M.tick
 split
 ·rfl
 ·exact List.getElem?_set_ne (by omega)
end Sk
