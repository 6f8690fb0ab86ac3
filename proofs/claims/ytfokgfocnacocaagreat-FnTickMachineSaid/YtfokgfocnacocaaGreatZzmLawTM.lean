/- Contracts of functions of the given program, each under the condition that it states. -/
import Derived.Test.YtfokgfocnacocaaGreatChecked
import Derived.Deep.CutBlock
import Derived.Deep.CutRange
import Derived.Test.YtfokgfocnacocaaGreatZyDm
namespace Sk
open Go Go.Proofs Go.RowKit
set_option maxHeartbeats 4000000
set_option maxRecDepth 100000
set_option linter.unusedVariables false
set_option linter.unusedSimpArgs false
theorem lawTickMachine (v : Value) (xs : List By) (w : World) (h : Rs w v xs) :
  Calls Tryz.prog 3 #[v] w fun e w' => e = .returned (.bool true) ∧ Ext w w' := by
 obtain ⟨a, c, rfl, hl⟩ := h.form
 have H := zh h
 clear h
 by_cases hx : xs.length ≤ 1048576
 case neg =>
  have hx2 : 1048576 < xs.length := by omega
  clear hx
  go_enter Tryz.func3, Tryz.ntmps3
  go_wp2
  go_ret
  exact ⟨rfl, Ext.refl w⟩
 go_enter Tryz.func3, Tryz.ntmps3
 go_upto_region 4 with (go_at_call 5; refine (spec_DrawTickMachine _ _ _ H.out).mono ?_; rintro e w1 ⟨v1, x, rfl, hv, htt, he⟩; obtain ⟨p0, q0, p1, q1, p2, q2, p3, q3, p4, q4, p5, q5, rfl, -⟩ := hv.openMc; have HV := zh hv.rv; have HTT := zh htt; have HE := zh he; clear hv htt he)
 obtain ⟨A, hA⟩ : ∃ A, A = w1.heap.size := ⟨_, rfl⟩
 refine abs_world (fun u => Ext w1 u ∧ Bk u A [.slice p0 x.Plan.Parts.length q0, .slice p1 x.Plan.Channels.length q1, .slice p2 x.Plan.Slots.length q2, .slice p3 x.Programs.length q3, .slice p4 x.Cores.length q4, .slice p5 x.Holds.length q5, .int .i64 x.Tick] 32) ⟨(Ext.refl _).alloc _, by rw [hA]; exact Bk.new _ _ _⟩ ?_
 rw [← hA]
 rintro W1 ⟨e1, kA⟩
 clear hA H
 replace HV := zh (HV.out.ext e1)
 replace HE := zh (HE.out.tr e1)
 have KA := zh kA
 have ltA := kA.lt
 obtain ⟨f0, f1, f2, f3, f4, f5, f6⟩ := Bk.k7 kA
 clear e1 kA
 obtain ⟨_, _, _, _, _, _, _, _, _, _, _, _, ee, r6, s0, -, s1, -, s2, -, s3, -, s4, -, s5, -⟩ := HV.out.openMachine
 have e9 := congrArg (fun v => match v with | .agg a => a.toList | _ => []) ee
 simp only [List.cons.injEq, Value.slice.injEq, and_true, true_and] at e9
 obtain ⟨⟨rfl, rfl⟩, ⟨rfl, rfl⟩, ⟨rfl, rfl⟩, ⟨rfl, rfl⟩, ⟨rfl, rfl⟩, ⟨rfl, rfl⟩⟩ := e9
 clear ee s0 s3
 have hxc : x.Cores.length ≤ 200000 := by
  have h1 := M.tot_eq x
  have h2 := tot_len (xs := x.Cores)
  have := HTT.out
  omega
 have hxh : x.Holds.length ≤ 200000 := by
  have h1 := M.tot_eq x
  have h2 := tot_len (xs := x.Holds)
  have := HTT.out
  omega
 obtain ⟨y, hy⟩ : ∃ y, M.tickM x = y := ⟨_, rfl⟩
 have CI := zh (fun (v : Value) (u : World) (h : Rv u v x) => impl_TickMachine v x u h)
 have CS := zh (fun (v : Value) (u : World) (h : Rv u v x) => spec_TickMachine v x u h)
 rw [hy] at CI CS
 have HY := zh hy
 clear hy
 go_upto_region 5 with (go_at_call 6; refine (CI.out _ _ HV.out).mono ?_; rintro e w2 ⟨v2, rfl, ho, he⟩; obtain ⟨b0, d0, b1, d1, b2, d2, b3, d3, b4, d4, b5, d5, rfl, y6, t0, -, t1, -, t2, -, t3, -, t4, -, t5, -⟩ := ho.rv.openMachine; have HR := zh ho.rv; have HE2 := zh he; clear ho he t0 t1 t2 t3)
 obtain ⟨B, hB⟩ : ∃ B, B = w2.heap.size := ⟨_, rfl⟩
 refine abs_world (fun u => Ext w2 u ∧ Bk u B [.slice b0 y.Plan.Parts.length d0, .slice b1 y.Plan.Channels.length d1, .slice b2 y.Plan.Slots.length d2, .slice b3 y.Programs.length d3, .slice b4 y.Cores.length d4, .slice b5 y.Holds.length d5, .int .i64 y.Tick] 32) ⟨(Ext.refl _).alloc _, by rw [hB]; exact Bk.new _ _ _⟩ ?_
 rw [← hB]
 rintro W3 ⟨e3, kB⟩
 clear hB f0 f1 f2 f3 f4 f5 f6 ltA
 have E3 := zh (HE2.out.tr e3)
 have E23 := zh e3
 have KB := zh kB
 have KA3 := zh (KA.out.ext E3.out)
 have HV3 := zh (HV.out.ext E3.out)
 have HR3 := zh (HR.out.ext e3)
 have ltB := kB.lt
 have ltA := KA3.out.lt
 obtain ⟨x0, x1, x2, x3, x4, x5, x6⟩ := Bk.k7 KA3.out
 obtain ⟨yy0, yy1, yy2, yy3, yy4, yy5, yy6⟩ := Bk.k7 kB
 clear e3 kB
 go_region_held3 (fun u => u.cell? ⟨A, 0, none⟩ = some (.slice p0 x.Plan.Parts.length q0) ∧ u.cell? ⟨A, 1, none⟩ = some (.slice p1 x.Plan.Channels.length q1) ∧ u.cell? ⟨A, 2, none⟩ = some (.slice p2 x.Plan.Slots.length q2) ∧ u.cell? ⟨A, 3, none⟩ = some (.slice p3 x.Programs.length q3) ∧ u.cell? ⟨A, 4, none⟩ = some (.slice p4 x.Cores.length q4) ∧ u.cell? ⟨A, 5, none⟩ = some (.slice p5 x.Holds.length q5) ∧ u.cell? ⟨A, 6, none⟩ = some (.int .i64 x.Tick) ∧ u.cell? ⟨B, 0, none⟩ = some (.slice b0 y.Plan.Parts.length d0) ∧ u.cell? ⟨B, 1, none⟩ = some (.slice b1 y.Plan.Channels.length d1) ∧ u.cell? ⟨B, 2, none⟩ = some (.slice b2 y.Plan.Slots.length d2) ∧ u.cell? ⟨B, 3, none⟩ = some (.slice b3 y.Programs.length d3) ∧ u.cell? ⟨B, 4, none⟩ = some (.slice b4 y.Cores.length d4) ∧ u.cell? ⟨B, 5, none⟩ = some (.slice b5 y.Holds.length d5) ∧ u.cell? ⟨B, 6, none⟩ = some (.int .i64 y.Tick))
  (go_keep)
  (first
   | (go_at_call 8; refine (CS.out _ _ (HV3.out.ext (Ext.refl W3).drew)).mono ?_; rintro e w4 ⟨v4, rfl, ho, he⟩; have HR4 := zh ho.rv; have E4 := zh ((Ext.refl W3).drew.tr he); clear ho he; have KA4 := zh (KA3.out.ext E4.out); have KB4 := zh (KB.out.ext E4.out); obtain ⟨z0, z1, z2, z3, z4, z5, z6⟩ := Bk.k7 KA4.out; obtain ⟨zt0, zt1, zt2, zt3, zt4, zt5, zt6⟩ := Bk.k7 KB4.out; clear KA4 KB4)
   | (go_at_call 7; refine (law_sameMachine _ _ y _ (HR3.out.ext E4.out) HR4.out).mono ?_; rintro e w5 ⟨rfl, he⟩; replace E4 := zh (E4.out.tr he); clear he; have KA4 := zh (KA3.out.ext E4.out); have KB4 := zh (KB.out.ext E4.out); obtain ⟨z0, z1, z2, z3, z4, z5, z6⟩ := Bk.k7 KA4.out; obtain ⟨zt0, zt1, zt2, zt3, zt4, zt5, zt6⟩ := Bk.k7 KB4.out; clear KA4 KB4))
 have KA5 := zh (KA3.out.ext E4.out)
 have KB5 := zh (KB.out.ext E4.out)
 clear x0 yy0 x1 yy1 x2 yy2 x3 yy3 x4 yy4 x5 yy5 x6 yy6 ltA ltB
 have y2 := KB5.out.cell (j := 2) rfl
 by_cases hv : M.mv x = true ∧ ¬ x.Tick = 100000
 case neg =>
  have hl : y.Plan.Slots.length ≤ 0 := by rw [← HY.out, M.tickM, if_neg hv]; exact Nat.le_refl _
  clear hv
  go_wp2_with (go_at_call 9; refine (law_alive _).mono ?_; rintro e w9 ⟨rfl, he⟩; have HE9 := zh (((HE.out.tr E3.out).tr E4.out).tr he); clear he)
  go_ret
  exact ⟨rfl, HE9.out⟩
 have hmv := M.mv_iff.1 hv.1
 have hyt : y = M.tick x := by rw [← HY.out, M.tickM, if_pos hv]
 have hyp : y.Plan = x.Plan := by rw [hyt]; exact M.tick_plan x
 have hsv : M.ssv x.Plan.Slots (x.Cores.length : Int) = true := by rw [hmv.nc]; exact hmv.ssv
 have hpos : 1 ≤ y.Plan.Slots.length := by rw [hyp]; exact (M.ssv_all hsv).1
 have hT0 := hmv.tick.1
 have hT1 : x.Tick ≤ 99999 := by have := hmv.tick.2; have := hv.2; omega
 have HYV := zh (show M.mv y = true by rw [hyt]; exact M.mv_iff.2 (M.tick_MV hmv (by omega)))
 have hyT1 : y.Tick ≤ x.Tick + 1 := by rw [hyt, M.tick_tick]; exact Int.le_refl _
 have hyT2 : x.Tick + 1 ≤ y.Tick := by rw [hyt, M.tick_tick]; exact Int.le_refl _
 have lc1 : x.Cores.length ≤ y.Cores.length := by rw [hyt, M.tick_cores]; exact Nat.le_refl _
 have lh1 : x.Holds.length ≤ y.Holds.length := by rw [hyt, M.tick_holds]; exact Nat.le_refl _
 have lh2 : x.Holds.length ≤ x.Plan.Channels.length := by rw [hmv.nh]; exact Nat.le_refl _
 have hwho := hmv.who x.Tick
 obtain ⟨q, hq⟩ : ∃ q, M.who x.Plan.Slots x.Tick = q := ⟨_, rfl⟩
 have HC := zh (fun k (h : (k : Int) ≠ q) => by have := M.tick_core x k (by rw [hq]; exact h); rw [← hyt] at this; exact this : ∀ k : Nat, (k : Int) ≠ q → y.Cores[k]? = x.Cores[k]?)
 have HH := zh (fun k ch hk (h1 : ch.From ≠ q) (h2 : ch.To ≠ q) => by have := M.tick_hold x k ch hk (by rw [hq]; exact h1) (by rw [hq]; exact h2); rw [← hyt] at this; exact this : ∀ (k : Nat) (ch : Channel), x.Plan.Channels[k]? = some ch → ch.From ≠ q → ch.To ≠ q → y.Holds[k]? = x.Holds[k]?)
 have CW := zh (fun (v : Value) (u : World) (h : Rs u v x.Plan.Slots) => impl_WhoRuns v x.Plan.Slots x.Cores.length x.Tick u h hsv hT0 (by omega))
 rw [hq] at CW
 have hqr : -1 ≤ q ∧ q ≤ 9223372036854775807 := by
  have h5 := (M.ssv_all hsv).2.2.1
  rcases hwho with h | ⟨n, h, hn⟩ <;> rw [hq] at h <;> omega
 clear hmv hyt hyp hsv hq hwho hv
 have x2 := KA5.out.cell (j := 2) rfl
 have x4 := KA5.out.cell (j := 4) rfl
 have x6 := KA5.out.cell (j := 6) rfl
 go_wp2_with (go_at_call 10; refine (CW.out _ _ (s2.out.ext (E3.out.tr E4.out))).mono ?_; rintro e w6 ⟨rfl, he⟩; have E6 := zh (E4.out.tr he); clear he; have x4 := (KA3.out.ext E6.out).cell (j := 4) rfl)
 go_loopw [6] (fun i wr => ∃ k : Nat, k ≤ x.Cores.length ∧ i = .int .i64 k ∧ Ext W3 wr) (fun i _ => x.Cores.length - (intOf i).toNat)
 case atStart => exact ⟨0, Nat.zero_le _, rfl, E6.out⟩
 case round =>
  obtain ⟨k, hk, rfl, er⟩ := hrel
  have ER := zh er
  have ka := KA3.out.ext er
  have kb := KB.out.ext er
  have u4 := ka.cell (j := 4) rfl
  have v4 := kb.cell (j := 4) rfl
  have lua := ka.lt
  have lub := kb.lt
  clear er x2 x4 x6 y2
  by_cases hkt : k < x.Cores.length
  ·by_cases hkq : (k : Int) = q
   ·subst hkq
    clear ka kb
    go_wp2
    go_big_quiet (fail)
    go_wp2
    exact ⟨⟨k + 1, by omega, by go_num, ER.out.drewN _⟩, by simp [intOf]; omega⟩
   have hb1 : ((k : Int) != q) = true := by simpa using hkq
   have hk2 : k < y.Cores.length := by omega
   obtain ⟨ab, ao, r, pa, pc, rfl, hb, hx, hp0, hp1, hp2, hr1, hs0, hl0, hv⟩ := (s4.out.ext (E3.out.tr ER.out)).atCore k hkt
   obtain ⟨bb, bo, r2, qa, qc, rfl, hb2, hx2, hq0, hq1, hq2, hr2, hs2, hl2, hv2⟩ := (t4.out.ext (E23.out.tr ER.out)).atCore k (by omega)
   obtain rfl : r2 = r := by have h2 := hx2.out; rw [HC.out k hkq, hx.out] at h2; exact (Option.some.inj h2).symm
   clear hx hx2 hs0 hs2 ka kb
   go_wp2
   go_region_held3 (fun u => u.cell? ⟨A, 4, none⟩ = some (.slice (some ⟨ab, ao, none⟩) x.Cores.length q4) ∧ u.cell? ⟨B, 4, none⟩ = some (.slice (some ⟨bb, bo, none⟩) y.Cores.length d4) ∧ u.cell? ⟨ab, ao + k * 3, none⟩ = some (.slice pa r2.Cells.length pc) ∧ u.cell? ⟨ab, ao + k * 3 + 1, none⟩ = some (.int .i64 r2.At) ∧ u.cell? ⟨ab, ao + k * 3 + 2, none⟩ = some (.bool r2.Stopped) ∧ u.cell? ⟨bb, bo + k * 3, none⟩ = some (.slice qa r2.Cells.length qc) ∧ u.cell? ⟨bb, bo + k * 3 + 1, none⟩ = some (.int .i64 r2.At) ∧ u.cell? ⟨bb, bo + k * 3 + 2, none⟩ = some (.bool r2.Stopped))
    (go_keep)
    ((go_at_call 11; refine (law_sameCore _ _ r2 _ (hv2.out.ext (Ext.refl wr).drew) (hv.out.ext (Ext.refl wr).drew)).mono ?_; rintro e w9 ⟨rfl, he⟩; have E9 := zh ((Ext.refl wr).drew.tr he); have g1 := (cell_ext E9.out lua).trans u4; have g2 := (cell_ext E9.out lub).trans v4; have g3 := (cell_ext E9.out hb).trans hp0; have g4 := (cell_ext E9.out hb).trans hp1; have g5 := (cell_ext E9.out hb).trans hp2; have g6 := (cell_ext E9.out hb2).trans hq0; have g7 := (cell_ext E9.out hb2).trans hq1; have g8 := (cell_ext E9.out hb2).trans hq2; clear he))
   go_wp2
   exact ⟨⟨k + 1, by omega, by go_num, ER.out.tr E9.out⟩, by simp [intOf]; omega⟩
  obtain rfl : k = x.Cores.length := by omega
  have u5 := ka.cell (j := 5) rfl
  clear ka kb v4
  obtain ⟨wo, rfl⟩ : ∃ wo, wo = wr := ⟨_, rfl⟩
  go_wp2
  go_loopw [7] (fun i wr => ∃ k : Nat, k ≤ x.Holds.length ∧ i = .int .i64 k ∧ Ext W3 wr) (fun i _ => x.Holds.length - (intOf i).toNat)
  case atStart => exact ⟨0, Nat.zero_le _, rfl, ER.out⟩
  case round =>
   obtain ⟨k, hk, rfl, er⟩ := hrel
   have ER := zh er
   have ka := KA3.out.ext er
   have kb := KB.out.ext er
   clear u4 u5 lua lub
   have u1 := ka.cell (j := 1) rfl
   have u5 := ka.cell (j := 5) rfl
   have v5 := kb.cell (j := 5) rfl
   have lua := ka.lt
   have lub := kb.lt
   clear er
   by_cases hkt : k < x.Holds.length
   ·have hk1 : k < x.Plan.Channels.length := by omega
    have hk2 : k < y.Holds.length := by omega
    obtain ⟨cb, co, ch, rfl, hcb, hcx, hc0, hc1, hc2, hc3, -, rc1, rc2, -, -⟩ := (s1.out.ext (E3.out.tr ER.out)).atChannel k (by omega)
    clear hc0 hc3
    by_cases h1 : ch.From = q
    ·have hb1 : (ch.From != q) = false := by simpa using h1
     clear ka kb h1
     go_wp2
     go_big_quiet (fail)
     go_wp2
     exact ⟨⟨k + 1, by omega, by go_num, ER.out.drewN _⟩, by simp [intOf]; omega⟩
    have hb1 : (ch.From != q) = true := by simpa using h1
    by_cases h2 : ch.To = q
    ·have hb2 : (ch.To != q) = false := by simpa using h2
     clear ka kb h1 h2
     go_wp2
     go_big_quiet (fail)
     go_wp2
     exact ⟨⟨k + 1, by omega, by go_num, ER.out.drewN _⟩, by simp [intOf]; omega⟩
    have hbt : (ch.To != q) = true := by simpa using h2
    obtain ⟨ab, ao, r, pa, pc, rfl, hb, hx, hp0, hs0, hl0, hv⟩ := (s5.out.ext (E3.out.tr ER.out)).atHold k hkt
    obtain ⟨bb, bo, r2, qa, qc, rfl, hb2, hx2, hq0, hs2, hl2, hv2⟩ := (t5.out.ext (E23.out.tr ER.out)).atHold k (by omega)
    obtain rfl : r2 = r := by have h2 := hx2.out; rw [HH.out k ch hcx.out h1 (by simpa using hbt), hx.out] at h2; exact (Option.some.inj h2).symm
    clear hx hx2 hcx ka kb
    go_wp2
    go_region_held3 (fun u => u.cell? ⟨A, 1, none⟩ = some (.slice (some ⟨cb, co, none⟩) x.Plan.Channels.length q1) ∧ u.cell? ⟨A, 5, none⟩ = some (.slice (some ⟨ab, ao, none⟩) x.Holds.length q5) ∧ u.cell? ⟨B, 5, none⟩ = some (.slice (some ⟨bb, bo, none⟩) y.Holds.length d5) ∧ u.cell? ⟨cb, co + k * 4 + 1, none⟩ = some (.int .i64 ch.From) ∧ u.cell? ⟨cb, co + k * 4 + 2, none⟩ = some (.int .i64 ch.To) ∧ u.cell? ⟨ab, ao + k, none⟩ = some (.slice pa r2.Lst.length pc) ∧ u.cell? ⟨bb, bo + k, none⟩ = some (.slice qa r2.Lst.length qc))
     (go_keep)
     ((go_at_call 12; refine (law_sameInts _ _ r2.Lst r2.Lst _ (hs2.out.ext (Ext.refl wr).drew) (hs0.out.ext (Ext.refl wr).drew)).mono ?_; rintro e w9 ⟨rfl, he⟩; rw [Eqb.t (rfl : r2.Lst = r2.Lst)]; have E9 := zh ((Ext.refl wr).drew.tr he); have g0 := (cell_ext E9.out lua).trans u1; have g1 := (cell_ext E9.out lua).trans u5; have g2 := (cell_ext E9.out lub).trans v5; have g3 := (cell_ext E9.out hcb).trans hc1; have g4 := (cell_ext E9.out hcb).trans hc2; have g5 := (cell_ext E9.out hb).trans hp0; have g6 := (cell_ext E9.out hb2).trans hq0; clear he))
    go_wp2
    exact ⟨⟨k + 1, by omega, by go_num, ER.out.tr E9.out⟩, by simp [intOf]; omega⟩
   obtain rfl : k = x.Holds.length := by omega
   clear u1 v5 lua lub
   obtain ⟨z0, z1, z2, z3, z4, z5, z6⟩ := Bk.k7 kb
   clear kb
   go_wp2_with (go_at_call 13; refine (impl_MachineValid _ y _ (HR3.out.ext ER.out)).mono ?_; rintro e w8 ⟨rfl, he⟩; rw [HYV.out]; have E8 := zh (ER.out.tr he); have k6 := (KB.out.ext E8.out).cell (j := 6) rfl; have j6 := (KA3.out.ext E8.out).cell (j := 6) rfl; clear he)
   go_ret
   have hte : (y.Tick == x.Tick + 1) = true := by rw [beq_iff_eq]; omega
   refine ⟨?_, (HE.out.tr E3.out).tr E8.out⟩
   show Ending.returned (.bool (y.Tick == x.Tick + 1)) = _
   rw [hte]
end Sk
