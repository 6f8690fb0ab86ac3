/- Contracts of functions of the given program, each under the condition that it states. -/
import Derived.Test.YtfihgkjbjpodnaaChecked
import Derived.Deep.CutBlock
import Derived.Deep.CutRange
import Derived.Test.YtfihgkjbjpodnaaZyDm
import Derived.Test.YtfihgkjbjpodnaaDrawW
namespace Sk
open Go Go.Proofs Go.RowKit
set_option maxHeartbeats 8000000
set_option maxRecDepth 100000
set_option linter.unusedVariables false
set_option linter.unusedSimpArgs false
theorem lawMachineValid (v : Value) (xs : List By) (w : World) (h : Rs w v xs) :
  Calls Try.prog 3 #[v] w fun e w' => e = .returned (.bool true) ∧ Ext w w' := by
 obtain ⟨a, c, rfl, hl⟩ := h.form
 have H := zh h
 clear h
 by_cases hx : xs.length ≤ 1048576
 case neg =>
  have hx2 : 1048576 < xs.length := by omega
  clear hx
  go_enter Try.func3, Try.ntmps3
  go_wp2
  go_ret
  exact ⟨rfl, Ext.refl w⟩
 go_enter Try.func3, Try.ntmps3
 go_upto_region 4 with (go_at_call 4; refine (spec_DrawMachineValid _ _ _ H.out).mono ?_; rintro e w1 ⟨v1, x, rfl, hv, htt, he⟩; obtain ⟨p0, q0, p1, q1, p2, q2, p3, q3, p4, q4, p5, q5, rfl, -⟩ := hv.openMc; have HV := zh hv.rv; have HTT := zh htt; have HE := zh he; clear hv htt he)
 obtain ⟨A, hA⟩ : ∃ A, A = w1.heap.size := ⟨_, rfl⟩
 refine abs_world (fun u => Ext w1 u ∧ Bk u A [.slice p0 x.Plan.Parts.length q0, .slice p1 x.Plan.Channels.length q1, .slice p2 x.Plan.Slots.length q2, .slice p3 x.Programs.length q3, .slice p4 x.Cores.length q4, .slice p5 x.Holds.length q5, .int .i64 x.Tick] 32) ⟨(Ext.refl _).alloc _, by rw [hA]; exact Bk.new _ _ _⟩ ?_
 rw [← hA]
 rintro W1 ⟨e1, kA⟩
 clear hA H
 replace HV := zh (HV.out.ext e1)
 replace HE := zh (HE.out.tr e1)
 have KA := zh kA
 have ltA := kA.lt
 obtain ⟨f0, f1, f2, f3, f4, f5, f6⟩ := Bk.k7 kA
 clear e1 kA
 cases g : M.mv x
 ·go_wp2_with (first
   | (go_at_call 5; refine (impl_MachineValid _ x _ HV.out).mono ?_; rintro e w2 ⟨rfl, he⟩; rw [g]; have KA2 := zh (KA.out.ext he); obtain ⟨g0, g1, g2, g3, g4, g5, g6⟩ := Bk.k7 KA2.out; have ltg := KA2.out.lt; have HE2 := zh (HE.out.tr he); have HV2 := zh (HV.out.ext he); clear he)
   | (go_at_call 6; refine (spec_MachineValid _ x _ HV2.out).mono ?_; rintro e w3 ⟨rfl, he⟩; rw [g]; have KA3 := zh (KA2.out.ext he); obtain ⟨h0, h1, h2, h3, h4, h5, h6⟩ := Bk.k7 KA3.out; have lth := KA3.out.lt; have HE3 := zh (HE2.out.tr he); have HV3 := zh (HV2.out.ext he); clear he)
   | (go_at_call 7; refine (law_alive _).mono ?_; rintro e w9 ⟨rfl, he⟩; have HE9 := zh (HE3.out.tr he); clear he))
  go_ret
  exact ⟨rfl, HE9.out⟩
 have hmv := M.mv_iff.1 g
 have hn1 : M.mv ({ x with Tick := 100001 } : Machine) = false := Bo.f fun h => absurd h.tick.2 (by show ¬ (100001 : Int) ≤ 100000; decide)
 have hn2 : M.mv ({ x with Cores := ⟨[], 0, false⟩ :: x.Cores } : Machine) = false := Bo.f fun h => by
  have h1 : (⟨[], 0, false⟩ :: x.Cores).length = x.Plan.Parts.length := h.nc
  have h2 := hmv.nc
  simp only [List.length_cons] at h1
  omega
 have hxc : x.Cores.length ≤ 200000 := by
  have h1 := M.tot_eq x
  have h2 := tot_len (xs := x.Cores)
  have := HTT.out
  omega
 have HN1 := zh hn1
 have HN2 := zh hn2
 clear hmv hn1 hn2
 go_upto_region 10 with (first
  | (go_at_call 5; refine (impl_MachineValid _ x _ HV.out).mono ?_; rintro e w2 ⟨rfl, he⟩; rw [g]; have KA2 := zh (KA.out.ext he); obtain ⟨g0, g1, g2, g3, g4, g5, g6⟩ := Bk.k7 KA2.out; have ltg := KA2.out.lt; have HE2 := zh (HE.out.tr he); have HV2 := zh (HV.out.ext he); clear he)
  | (go_at_call 6; refine (spec_MachineValid _ x _ HV2.out).mono ?_; rintro e w3 ⟨rfl, he⟩; rw [g]; have KA3 := zh (KA2.out.ext he); obtain ⟨h0, h1, h2, h3, h4, h5, h6⟩ := Bk.k7 KA3.out; have lth := KA3.out.lt; have HE3 := zh (HE2.out.tr he); have HV3 := zh (HV2.out.ext he); clear he))
 obtain ⟨B, hB⟩ : ∃ B, B = w3.heap.size := ⟨_, rfl⟩
 refine abs_world (fun u => Ext w3 u ∧ Bk u B [.slice p0 x.Plan.Parts.length q0, .slice p1 x.Plan.Channels.length q1, .slice p2 x.Plan.Slots.length q2, .slice p3 x.Programs.length q3, .slice p4 x.Cores.length q4, .slice p5 x.Holds.length q5, .int .i64 x.Tick] 32) ⟨(Ext.refl _).alloc _, by rw [hB]; exact Bk.new _ _ _⟩ ?_
 rw [← hB]
 rintro W4 ⟨e4, k4⟩
 have hBA : A < B := by have := KA3.out.lt; omega
 have hB3 : w3.heap.size ≤ B := by omega
 clear hB
 have i6 := k4.cell (j := 6) rfl
 have i6f := k4.fz
 have lt4 := k4.lt
 have E4 := zh e4
 have KB := zh (k4.set 6 (.int .i64 100001))
 clear e4 k4 h0 h1 h2 h3 h4 h5 h6 g0 g1 g2 g3 g4 g5 g6 f0 f1 f2 f3 f4 f5 f6
 go_upto_region 11 with (fail)
 refine abs_world (fun u => Ext w3 u ∧ Bk u B [.slice p0 x.Plan.Parts.length q0, .slice p1 x.Plan.Channels.length q1, .slice p2 x.Plan.Slots.length q2, .slice p3 x.Programs.length q3, .slice p4 x.Cores.length q4, .slice p5 x.Holds.length q5, .int .i64 100001] 32) ⟨E4.out.set (p := ⟨B, 6, none⟩) hB3 _, KB.out⟩ ?_
 rintro W5 ⟨e5, k5⟩
 have KA5 := zh (KA3.out.ext e5)
 obtain ⟨j0, j1, j2, j3, j4, j5, j6⟩ := Bk.k7 KA5.out
 have ltj := KA5.out.lt
 have E5 := zh e5
 have KB5 := zh k5
 clear e5 k5 KB i6 i6f E4
 go_upto_region 12 with (fail)
 obtain ⟨C, hC⟩ : ∃ C, C = W5.heap.size := ⟨_, rfl⟩
 refine abs_world (fun u => Ext W5 u ∧ Bk u C [.slice p0 x.Plan.Parts.length q0, .slice p1 x.Plan.Channels.length q1, .slice p2 x.Plan.Slots.length q2, .slice p3 x.Programs.length q3, .slice p4 x.Cores.length q4, .slice p5 x.Holds.length q5, .int .i64 x.Tick] 32) ⟨(Ext.refl _).alloc _, by rw [hC]; exact Bk.new _ _ _⟩ ?_
 rw [← hC]
 rintro W6 ⟨e6, k6⟩
 have hCB : B < C := by have := KB5.out.lt; omega
 have hC5 : W5.heap.size ≤ C := by omega
 clear hC j0 j1 j2 j3 j4 j5 j6
 have KA6 := zh (KA5.out.ext e6)
 have KB6 := zh (KB5.out.ext e6)
 have E6 := zh (E5.out.tr e6)
 have KC := zh k6
 have E56 := zh e6
 have c4 := k6.cell (j := 4) rfl
 have cf := k6.fz
 have ltC := k6.lt
 have a4 := KA6.out.cell (j := 4) rfl
 have ltA6 := KA6.out.lt
 clear e6 k6
 obtain ⟨_, _, _, _, _, _, _, _, _, _, _, _, ee, r6, s0, -, s1, -, s2, -, s3, -, s4, -, s5, -⟩ := HV3.out.openMachine
 have e9 := congrArg (fun v => match v with | .agg a => a.toList | _ => []) ee
 simp only [List.cons.injEq, Value.slice.injEq, and_true, true_and] at e9
 obtain ⟨⟨rfl, rfl⟩, ⟨rfl, rfl⟩, ⟨rfl, rfl⟩, ⟨rfl, rfl⟩, ⟨rfl, rfl⟩, ⟨rfl, rfl⟩⟩ := e9
 clear ee
 go_upto_region 13 with (at_builtin; go_loud (refine wpl_appRs (W := w3) (α := Core) rfl _ _ 29 rfl 38 Try.underlying29 elCore (v := .slice (some ⟨W6.heap.size, 0, none⟩) 1 1) (xs := [(⟨[], 0, false⟩ : Core)]) (F := []) rfl (Oa.lit 38 W6 [.slice none 0 0, .int .i64 0, .bool false] [(⟨[], 0, false⟩ : Core)] rfl rfl (by simp) (Row.lit1 (cs := [.slice none 0 0, .int .i64 0, .bool false]) (GT.zero (α := Core) W6)) (by simp)) rfl s4.out (E6.out.alloc _) (by intro k hk; simp only [Value.ownBlock, Option.some.injEq] at hk; omega) (by simp; omega) (by simp) ?_; intro v7 w7 F7 hS hF hg; obtain ⟨a7, n7, c7, rfl⟩ : ∃ a n c, v7 = Value.slice a n c := (let ⟨a, c, e, _⟩ := (show Rs w7 v7 _ from ⟨F7, hS⟩).form; ⟨a, _, c, e⟩); have HS7 := zh hS; have HF7 : Hid (C ∉ F7) := zh (fun hm => by have := hF C hm; simp only [Value.ownBlock, Option.some.injEq, List.not_mem_nil, false_or, World.size_alloc] at this; omega); have E7 := zh (Ext.grown ((Ext.refl W6).alloc _) hg (fun k hk => by simp only [Value.ownBlock, Option.some.injEq] at hk; omega)); clear hS hF hg; have cc4 := (cell_ext E7.out ltC).trans c4; have cfz : w7.frozen? ⟨C, 4, none⟩ = false := (KC.out.ext E7.out).fz 4))
 have hC3 : w3.heap.size ≤ C := by omega
 have KC7 := zh ((KC.out.ext E7.out).set 4 (.slice a7 n7 c7))
 have KB7 := zh ((KB6.out.ext E7.out).set_ne (p := ⟨C, 4, none⟩) (by show B ≠ C; omega) (.slice a7 n7 c7))
 have E8 := zh ((E6.out.tr E7.out).set (p := ⟨C, 4, none⟩) hC3 (.slice a7 n7 c7))
 have HS8 := zh (HS7.out.set (p := ⟨C, 4, none⟩) HF7.out (.slice a7 n7 c7))
 refine abs_world (fun u => Ext w3 u ∧ Bk u B [.slice p0 x.Plan.Parts.length q0, .slice p1 x.Plan.Channels.length q1, .slice p2 x.Plan.Slots.length q2, .slice p3 x.Programs.length q3, .slice p4 x.Cores.length q4, .slice p5 x.Holds.length q5, .int .i64 100001] 32 ∧ Bk u C [.slice p0 x.Plan.Parts.length q0, .slice p1 x.Plan.Channels.length q1, .slice p2 x.Plan.Slots.length q2, .slice p3 x.Programs.length q3, .slice a7 n7 c7, .slice p5 x.Holds.length q5, .int .i64 x.Tick] 32 ∧ Rs u (.slice a7 n7 c7) ((⟨[], 0, false⟩ : Core) :: x.Cores)) ⟨E8.out, KB7.out, KC7.out, _, HS8.out⟩ ?_
 rintro W9 ⟨e9, kB9, kC9, hc9⟩
 have RA : Hid (Rv W9 (.agg #[.slice p0 x.Plan.Parts.length q0, .slice p1 x.Plan.Channels.length q1, .slice p2 x.Plan.Slots.length q2, .slice p3 x.Programs.length q3, .slice p4 x.Cores.length q4, .slice p5 x.Holds.length q5, .int .i64 100001]) ({ x with Tick := 100001 } : Machine)) := zh (Rv.mkMachine (x := { x with Tick := 100001 }) (s0.out.ext e9) (s1.out.ext e9) (s2.out.ext e9) (s3.out.ext e9) (s4.out.ext e9) (s5.out.ext e9) ⟨by show -9223372036854775808 ≤ (100001 : Int); decide, by show (100001 : Int) ≤ 9223372036854775807; decide⟩)
 have RB : Hid (Rv W9 (.agg #[.slice p0 x.Plan.Parts.length q0, .slice p1 x.Plan.Channels.length q1, .slice p2 x.Plan.Slots.length q2, .slice p3 x.Programs.length q3, .slice a7 n7 c7, .slice p5 x.Holds.length q5, .int .i64 x.Tick]) ({ x with Cores := ⟨[], 0, false⟩ :: x.Cores } : Machine)) := zh (Rv.mkMachine (x := { x with Cores := ⟨[], 0, false⟩ :: x.Cores }) (s0.out.ext e9) (s1.out.ext e9) (s2.out.ext e9) (s3.out.ext e9) hc9 (s5.out.ext e9) r6)
 have E9 := zh (HE3.out.tr e9)
 have KC9 := zh kC9
 obtain ⟨b0, b1, b2, b3, b4, b5, b6⟩ := Bk.k7 kB9
 clear e9 kB9 kC9 hc9 KC7 KB7 E8 HS8 HS7 HF7 E7 cc4 cfz c4 cf ltC a4 ltA6 KC KB6 KA6 E6 E56
 go_wp2_with (first
  | (go_at_call 5; refine (impl_MachineValid _ _ _ RA.out).mono ?_; rintro e w10 ⟨rfl, he⟩; rw [HN1.out]; clear RA; have E10 := zh (E9.out.tr he); have RB10 := zh (RB.out.ext he); have KC10 := zh (KC9.out.ext he); obtain ⟨d0, d1, d2, d3, d4, d5, d6⟩ := Bk.k7 KC10.out; clear he)
  | (go_at_call 5; refine (impl_MachineValid _ _ _ RB10.out).mono ?_; rintro e w11 ⟨rfl, he⟩; rw [HN2.out]; have E11 := zh (E10.out.tr he); clear he))
 go_ret
 exact ⟨rfl, E11.out⟩
end Sk
