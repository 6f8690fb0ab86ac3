/- Contracts of functions of the given program, each under the condition that it states. -/
import Derived.Test.YtfokgfocnacocaaGreatChecked
import Derived.Deep.CutBlock
import Derived.Deep.CutRange
import Derived.Test.YtfokgfocnacocaaGreatZyDm
import Derived.Test.YtfokgfocnacocaaGreatDraw
import Derived.Test.YtfokgfocnacocaaGreatZjHth
import Derived.Test.YtfokgfocnacocaaGreatNewW
namespace Sk
open Go Go.Proofs Go.RowKit
set_option maxHeartbeats 4000000
set_option maxRecDepth 100000
set_option linter.unusedVariables false
set_option linter.unusedSimpArgs false
theorem law_sameWatch (v1 v2 : Value) (x : Watch) (w : World) (h1 : Rv w v1 x) (h2 : Rv w v2 x) :
  Calls Tryz.prog 16 #[v1, v2] w fun e w' => e = .returned (.bool true) ∧ Ext w w' := by
 obtain ⟨a0, c0, a1, c1, a2, c2, a3, c3, a4, c4, a5, c5, a7, c7, rfl, r6, h0, l0, h1', l1, h2', l2, h3, l3, h4, l4, h5, l5, h7, l7⟩ := h1.openWatch
 obtain ⟨b0, d0, b1, d1, b2, d2, b3, d3, b4, d4, b5, d5, b7, d7, rfl, s6, g0, m0, g1, m1, g2, m2, g3, m3, g4, m4, g5, m5, g7, m7⟩ := h2.openWatch
 clear h1 h2
 have RA := zh (Rv.mkMachine (x := x.Box) h0.out h1'.out h2'.out h3.out h4.out h5.out r6)
 have RB := zh (Rv.mkMachine (x := x.Box) g0.out g1.out g2.out g3.out g4.out g5.out s6)
 clear h0 h1' h2' h3 h4 h5 g0 g1 g2 g3 g4 g5
 go_enter Tryz.func16, Tryz.ntmps16
 go_upto_region 1 with (fail)
 refine abs_world (fun W => Ext w W ∧ Bk W w.heap.size [.slice a0 x.Box.Plan.Parts.length c0, .slice a1 x.Box.Plan.Channels.length c1, .slice a2 x.Box.Plan.Slots.length c2, .slice a3 x.Box.Programs.length c3, .slice a4 x.Box.Cores.length c4, .slice a5 x.Box.Holds.length c5, .int .i64 x.Box.Tick, .slice a7 x.States.length c7] 51 ∧ Bk W (w.heap.size + 1) [.slice b0 x.Box.Plan.Parts.length d0, .slice b1 x.Box.Plan.Channels.length d1, .slice b2 x.Box.Plan.Slots.length d2, .slice b3 x.Box.Programs.length d3, .slice b4 x.Box.Cores.length d4, .slice b5 x.Box.Holds.length d5, .int .i64 x.Box.Tick, .slice b7 x.States.length d7] 51) ⟨((Ext.refl _).alloc _).alloc _, (Bk.new _ _ _).ext ((Ext.refl _).alloc _), Bk.new1 _ _ _ _⟩ ?_
 rintro W ⟨e1, kA, kB⟩
 have E := zh e1
 have KA := zh kA
 have KB := zh kB
 have ltA := kA.lt
 have ltB := kB.lt
 obtain ⟨x0, x1, x2, x3, x4, x5, x6, x7⟩ := Bk.k8 kA
 obtain ⟨y0, y1, y2, y3, y4, y5, y6, y7⟩ := Bk.k8 kB
 clear e1 kA kB
 go_wp2_with (first
   | (go_at_call 7; refine (law_sameMachine _ _ x.Box _ (RA.out.ext E.out) (RB.out.ext E.out)).mono ?_; rintro e w4 ⟨rfl, he⟩; have E4 := zh he; clear he; have KA4 := zh (KA.out.ext E4.out); have KB4 := zh (KB.out.ext E4.out); obtain ⟨z0, z1, z2, z3, z4, z5, z6, z7⟩ := Bk.k8 KA4.out; obtain ⟨t0, t1, t2, t3, t4, t5, t6, t7⟩ := Bk.k8 KB4.out; clear KA4 KB4)
   | (go_at_call 39; refine (law_sameStates _ _ x.States _ (h7.out.ext (E.out.tr E4.out)) (g7.out.ext (E.out.tr E4.out))).mono ?_; rintro e w5 ⟨rfl, he⟩; replace E4 := zh (E4.out.tr he); clear he; have KA4 := zh (KA.out.ext E4.out); have KB4 := zh (KB.out.ext E4.out); obtain ⟨z0, z1, z2, z3, z4, z5, z6, z7⟩ := Bk.k8 KA4.out; obtain ⟨t0, t1, t2, t3, t4, t5, t6, t7⟩ := Bk.k8 KB4.out; clear KA4 KB4))
 go_ret
 exact ⟨rfl, E.out.tr E4.out⟩
theorem lawNewWatch (v : Value) (xs : List By) (w : World) (h : Rs w v xs) :
  Calls Tryz.prog 4 #[v] w fun e w' => e = .returned (.bool true) ∧ Ext w w' := by
 obtain ⟨a, c, rfl, hl⟩ := h.form
 have H := zh h
 clear h
 by_cases hx : xs.length ≤ 1048576
 case neg =>
  have hx2 : 1048576 < xs.length := by omega
  clear hx
  go_enter Tryz.func4, Tryz.ntmps4
  go_wp2
  go_ret
  exact ⟨rfl, Ext.refl w⟩
 go_enter Tryz.func4, Tryz.ntmps4
 go_upto_region 4 with (go_at_call 14; refine (spec_DrawNewWatch _ _ _ H.out).mono ?_; rintro e w1 ⟨v1, x, rfl, hv, htt, he⟩; obtain ⟨p0, q0, p1, q1, p2, q2, p3, q3, p4, q4, p5, q5, rfl, -⟩ := hv.openMc; have HV := zh hv.rv; have HTT := zh htt; have HE := zh he; clear hv htt he)
 obtain ⟨A, hA⟩ : ∃ A, A = w1.heap.size := ⟨_, rfl⟩
 refine abs_world (fun u => Ext w1 u ∧ Bk u A [.slice p0 x.Plan.Parts.length q0, .slice p1 x.Plan.Channels.length q1, .slice p2 x.Plan.Slots.length q2, .slice p3 x.Programs.length q3, .slice p4 x.Cores.length q4, .slice p5 x.Holds.length q5, .int .i64 x.Tick] 32) ⟨(Ext.refl _).alloc _, by rw [hA]; exact Bk.new _ _ _⟩ ?_
 rw [← hA]
 rintro W1 ⟨e1, kA⟩
 clear hA H
 replace HV := zh (HV.out.ext e1)
 replace HE := zh (HE.out.tr e1)
 have KA := zh kA
 have ltA := kA.lt
 obtain ⟨f0, f1, f2, f3, f4, f5, f6⟩ := Bk.k7 kA
 clear e1 kA
 obtain ⟨y, hy⟩ : ∃ y, M.newWatch x = y := ⟨_, rfl⟩
 have CI := zh (fun (v : Value) (u : World) (h : Rv u v x) => impl_NewWatch v x u h)
 have CS := zh (fun (v : Value) (u : World) (h : Rv u v x) => spec_NewWatch v x u h)
 rw [hy] at CI CS
 have HY := zh hy
 clear hy
 have hxc : x.Cores.length ≤ 200000 := by
  have h1 := M.tot_eq x
  have h2 := tot_len (xs := x.Cores)
  have := HTT.out
  omega
 go_upto_region 5 with (go_at_call 15; refine (CI.out _ _ HV.out).mono ?_; rintro e w2 ⟨v2, rfl, ho, he⟩; obtain ⟨b0, d0, b1, d1, b2, d2, b3, d3, b4, d4, b5, d5, b7, d7, rfl, y6, t0, -, t1, -, t2, -, t3, -, t4, -, t5, -, t7, -⟩ := ho.rv.openWatch; have HR := zh ho.rv; have HRM := zh (Rv.mkMachine (x := y.Box) t0.out t1.out t2.out t3.out t4.out t5.out y6); have HE2 := zh he; clear ho he t0 t1 t2 t3 t4 t5)
 obtain ⟨B, hB⟩ : ∃ B, B = w2.heap.size := ⟨_, rfl⟩
 refine abs_world (fun u => Ext w2 u ∧ Bk u B [.slice b0 y.Box.Plan.Parts.length d0, .slice b1 y.Box.Plan.Channels.length d1, .slice b2 y.Box.Plan.Slots.length d2, .slice b3 y.Box.Programs.length d3, .slice b4 y.Box.Cores.length d4, .slice b5 y.Box.Holds.length d5, .int .i64 y.Box.Tick, .slice b7 y.States.length d7] 51) ⟨(Ext.refl _).alloc _, by rw [hB]; exact Bk.new _ _ _⟩ ?_
 rw [← hB]
 rintro W3 ⟨e3, kB⟩
 clear hB f0 f1 f2 f3 f4 f5 f6 ltA
 have E3 := zh (HE2.out.tr e3)
 have E23 := zh e3
 have KB := zh kB
 have KA3 := zh (KA.out.ext E3.out)
 have HV3 := zh (HV.out.ext E3.out)
 have HR3 := zh (HR.out.ext e3)
 have ltB := kB.lt
 have ltA := KA3.out.lt
 obtain ⟨x0, x1, x2, x3, x4, x5, x6⟩ := Bk.k7 KA3.out
 obtain ⟨yy0, yy1, yy2, yy3, yy4, yy5, yy6, yy7⟩ := Bk.k8 kB
 clear e3 kB
 go_region_held3 (fun u => u.cell? ⟨A, 0, none⟩ = some (.slice p0 x.Plan.Parts.length q0) ∧ u.cell? ⟨A, 1, none⟩ = some (.slice p1 x.Plan.Channels.length q1) ∧ u.cell? ⟨A, 2, none⟩ = some (.slice p2 x.Plan.Slots.length q2) ∧ u.cell? ⟨A, 3, none⟩ = some (.slice p3 x.Programs.length q3) ∧ u.cell? ⟨A, 4, none⟩ = some (.slice p4 x.Cores.length q4) ∧ u.cell? ⟨A, 5, none⟩ = some (.slice p5 x.Holds.length q5) ∧ u.cell? ⟨A, 6, none⟩ = some (.int .i64 x.Tick) ∧ u.cell? ⟨B, 0, none⟩ = some (.slice b0 y.Box.Plan.Parts.length d0) ∧ u.cell? ⟨B, 1, none⟩ = some (.slice b1 y.Box.Plan.Channels.length d1) ∧ u.cell? ⟨B, 2, none⟩ = some (.slice b2 y.Box.Plan.Slots.length d2) ∧ u.cell? ⟨B, 3, none⟩ = some (.slice b3 y.Box.Programs.length d3) ∧ u.cell? ⟨B, 4, none⟩ = some (.slice b4 y.Box.Cores.length d4) ∧ u.cell? ⟨B, 5, none⟩ = some (.slice b5 y.Box.Holds.length d5) ∧ u.cell? ⟨B, 6, none⟩ = some (.int .i64 y.Box.Tick) ∧ u.cell? ⟨B, 7, none⟩ = some (.slice b7 y.States.length d7))
  (go_keep)
  (first
   | (go_at_call 17; refine (CS.out _ _ (HV3.out.ext (Ext.refl W3).drew)).mono ?_; rintro e w4 ⟨v4, rfl, ho, he⟩; have HR4 := zh ho.rv; have E4 := zh ((Ext.refl W3).drew.tr he); clear ho he; have KA4 := zh (KA3.out.ext E4.out); have KB4 := zh (KB.out.ext E4.out); obtain ⟨z0, z1, z2, z3, z4, z5, z6⟩ := Bk.k7 KA4.out; obtain ⟨zt0, zt1, zt2, zt3, zt4, zt5, zt6, zt7⟩ := Bk.k8 KB4.out; clear KA4 KB4)
   | (go_at_call 16; refine (law_sameWatch _ _ y _ (HR3.out.ext E4.out) HR4.out).mono ?_; rintro e w5 ⟨rfl, he⟩; replace E4 := zh (E4.out.tr he); clear he; have KA4 := zh (KA3.out.ext E4.out); have KB4 := zh (KB.out.ext E4.out); obtain ⟨z0, z1, z2, z3, z4, z5, z6⟩ := Bk.k7 KA4.out; obtain ⟨zt0, zt1, zt2, zt3, zt4, zt5, zt6, zt7⟩ := Bk.k8 KB4.out; clear KA4 KB4))
 have KA5 := zh (KA3.out.ext E4.out)
 clear x0 x1 x2 x3 x4 x5 x6 yy0 yy1 yy2 yy3 yy4 yy5 yy6 yy7 ltA ltB
 obtain ⟨x0, x1, x2, x3, x4, x5, x6⟩ := Bk.k7 KA5.out
 cases g : M.mv x
 ·have hl : y.States.length ≤ 0 := by rw [← HY.out, M.newWatch_f g]; exact Nat.le_refl _
  have hl0 : ((y.States.length : Int) == 0) = true := by rw [beq_iff_eq]; omega
  go_wp2_with (first
   | (go_at_call 18; refine (spec_MachineValid _ x _ (HV3.out.ext E4.out)).mono ?_; rintro e w6 ⟨rfl, he⟩; rw [g]; have E6 := zh (E4.out.tr he); have k7 := (KB.out.ext E6.out).cell (j := 7) rfl; clear he)
   | (go_at_call 9; refine (law_alive _).mono ?_; rintro e w9 ⟨rfl, he⟩; have HE9 := zh (((HE.out.tr E3.out).tr E6.out).tr he); clear he))
  go_ret
  exact ⟨rfl, HE9.out⟩
 have hyt : y = ⟨x, List.replicate x.Cores.length ⟨false, 0⟩⟩ := by rw [← HY.out, M.newWatch_t g]
 have hmv := M.mv_iff.1 g
 have HWV := zh (show M.wat y = true by
  rw [hyt]
  exact M.wat_iff.2 ⟨hmv, by simp, fun h hh => by rw [List.eq_of_mem_replicate hh]; rfl⟩)
 have HS := zh (fun k r hk => by rw [hyt] at hk; exact List.eq_of_mem_replicate (List.mem_of_getElem? hk) : ∀ (k : Nat) (r : Health), y.States[k]? = some r → r = ⟨false, 0⟩)
 have HRX := zh (fun v u h => by rw [hyt] at h; exact h : ∀ (v : Value) (u : World), Rv u v y.Box → Rv u v x)
 have hsl : y.States.length ≤ 200000 := by rw [hyt]; simpa using hxc
 clear hyt hmv
 go_wp2_with (go_at_call 18; refine (spec_MachineValid _ x _ (HV3.out.ext E4.out)).mono ?_; rintro e w6 ⟨rfl, he⟩; rw [g]; have E6 := zh (E4.out.tr he); have k7 := (KB.out.ext E6.out).cell (j := 7) rfl; clear he)
 go_loopw [5] (fun i wr => ∃ k : Nat, k ≤ y.States.length ∧ i = .int .i64 k ∧ Ext W3 wr) (fun i _ => y.States.length - (intOf i).toNat)
 case atStart => exact ⟨0, Nat.zero_le _, rfl, E6.out⟩
 case round =>
  obtain ⟨k, hk, rfl, er⟩ := hrel
  have ER := zh er
  have kb := KB.out.ext er
  have v7 := kb.cell (j := 7) rfl
  clear er k7
  by_cases hkt : k < y.States.length
  ·obtain ⟨hb0, ho, r, rfl, hb, hx, hp0, hp1, hr1, hv⟩ := (t7.out.ext (E23.out.tr ER.out)).atHealth k hkt
   obtain rfl := HS.out k r hx.out
   clear hx kb
   go_wp2
   exact ⟨⟨k + 1, by omega, by go_num, ER.out⟩, by simp [intOf]; omega⟩
  obtain rfl : k = y.States.length := by omega
  have ka := KA3.out.ext ER.out
  clear v7
  obtain ⟨z0, z1, z2, z3, z4, z5, z6, z7⟩ := Bk.k8 kb
  clear kb
  obtain ⟨zt0, zt1, zt2, zt3, zt4, zt5, zt6⟩ := Bk.k7 ka
  clear ka
  go_wp2_with (first
   | (go_at_call 19; refine (impl_WatchValid _ y _ (HR3.out.ext ER.out)).mono ?_; rintro e w8 ⟨rfl, he⟩; rw [HWV.out]; have E8 := zh (ER.out.tr he); have KA8 := zh (KA3.out.ext E8.out); have KB8 := zh (KB.out.ext E8.out); obtain ⟨u0, u1, u2, u3, u4, u5, u6, u7⟩ := Bk.k8 KB8.out; obtain ⟨ut0, ut1, ut2, ut3, ut4, ut5, ut6⟩ := Bk.k7 KA8.out; clear he)
   | (go_at_call 7; refine (law_sameMachine _ _ x _ (HRX.out _ _ (HRM.out.ext (E23.out.tr E8.out))) (HV3.out.ext E8.out)).mono ?_; rintro e w9 ⟨rfl, he⟩; have E9 := zh (E8.out.tr he); clear he))
  go_ret
  exact ⟨rfl, (HE.out.tr E3.out).tr E9.out⟩
end Sk
