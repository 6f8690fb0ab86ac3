/- Contracts of functions of the given program, each under the condition that it states. -/
import Derived.Test.YtbmdiefanhghcaaGreatChecked
import Derived.Deep.CutBlock
import Derived.Deep.CutRange
import Derived.Test.YtbmdiefanhghcaaGreatZgFgT
import Derived.Test.YtbmdiefanhghcaaGreatNewC
import Derived.Test.YtbmdiefanhghcaaGreatUARuns
namespace Sk
open Go Go.Proofs Go.RowKit
set_option maxHeartbeats 2000000
set_option maxRecDepth 100000
set_option linter.unusedVariables false
set_option linter.unusedSimpArgs false
structure M.WV (x : Watch) : Prop where
 box : M.MV x.Box
 ns : x.States.length = x.Box.Cores.length
 hh : ∀ h ∈ x.States, M.hh h = true
noncomputable def M.wat (x : Watch) : Bool := M.mv x.Box && (decide (x.States.length = x.Box.Cores.length) && x.States.all M.hh)
theorem M.wat_iff {x : Watch} : M.wat x = true ↔ M.WV x := by
 unfold M.wat
 simp only [Bool.and_eq_true, decide_eq_true_eq, List.all_eq_true, M.mv_iff]
 exact ⟨fun ⟨h1, h2, h3⟩ => ⟨h1, h2, h3⟩, fun h => ⟨h.box, h.ns, h.hh⟩⟩
theorem impl_WatchValid_1 (v : Value) (x : Health) (w : World) (h : Rv w v x) :
  Calls Tryz.prog 144 #[v] w fun e w' => e = .returned (.bool (!M.hh x)) ∧ Ext w w' := by
 have H := zh h
 obtain ⟨rfl, h1⟩ := h.openHealth
 clear h
 go_enter Tryz.func144, Tryz.ntmps144
 go_wp2_with (go_at_call 145; refine (impl_HealthValid _ x _ (H.out.ext ((Ext.refl w).alloc _))).mono ?_; rintro e w' ⟨rfl, he⟩)
 go_ret
 exact ⟨rfl, ((Ext.refl w).alloc _).tr he⟩
theorem impl_WatchValid (v : Value) (x : Watch) (w : World) (h : Rv w v x) :
  Calls Tryz.prog 80 #[v] w fun e w' => e = .returned (.bool (M.wat x)) ∧ Ext w w' := by
 obtain ⟨a0, c0, a1, c1, a2, c2, a3, c3, a4, c4, a5, c5, a7, c7, rfl, r6, h0, l0, h1, l1, h2, l2, h3, l3, h4, l4, h5, l5, h7, l7⟩ := h.openWatch
 clear h
 have HX := zh (fun (w1 : World) (hw1 : Ext w w1) => has_Health 144 #[] (fun x => !M.hh x) _ x.States w1 (h7.out.ext hw1) (enter_of Tryz.func144 (by kernel_rfl) (by kernel_rfl)) (fun w2 v y _ _ hv => impl_WatchValid_1 v y w2 hv))
 go_enter Tryz.func80, Tryz.ntmps80
 go_upto_region 1 with (fail)
 refine abs_world (fun W => Ext w W ∧ Bk W w.heap.size [.slice a0 x.Box.Plan.Parts.length c0, .slice a1 x.Box.Plan.Channels.length c1, .slice a2 x.Box.Plan.Slots.length c2, .slice a3 x.Box.Programs.length c3, .slice a4 x.Box.Cores.length c4, .slice a5 x.Box.Holds.length c5, .int .i64 x.Box.Tick, .slice a7 x.States.length c7] 49) ⟨(Ext.refl _).alloc _, Bk.new _ _ _⟩ ?_
 rintro W ⟨e1, kA⟩
 have E := zh e1
 have KA := zh kA
 obtain ⟨d0, d1, d2, d3, d4, d5, d6, d7⟩ := Bk.k8 kA
 clear e1 kA
 cases g : M.mv x.Box
 ·have hm : Hid (M.wat x = false) := zh (by unfold M.wat; rw [g]; rfl)
  go_wp2_with (go_at_call 119; refine (impl_MachineValid _ x.Box _ (Rv.mkMachine (h0.out.ext E.out) (h1.out.ext E.out) (h2.out.ext E.out) (h3.out.ext E.out) (h4.out.ext E.out) (h5.out.ext E.out) r6)).mono ?_; rintro e w1 ⟨rfl, he⟩; rw [g]; have E1 := zh (E.out.tr he); have KAx := KA.out.ext he; obtain ⟨x0, x1, x2, x3, x4, x5, x6, x7⟩ := Bk.k8 KAx; clear he KAx)
  go_ret
  exact ⟨wp_cond_ret hm.out.symm, E1.out⟩
 by_cases hn : x.States.length = x.Box.Cores.length
 ·have hm : Hid (M.wat x = x.States.all M.hh) := zh (by unfold M.wat; rw [g, decide_eq_true hn]; rfl)
  have hm2 := zh ((not_any_not M.hh x.States).trans hm.out.symm)
  have hb : ((x.States.length : Int) == (x.Box.Cores.length : Int)) = true := beq_iff_eq.2 (by omega)
  clear hn
  go_wp2_with (first
   | (go_at_call 119; refine (impl_MachineValid _ x.Box _ (Rv.mkMachine (h0.out.ext E.out) (h1.out.ext E.out) (h2.out.ext E.out) (h3.out.ext E.out) (h4.out.ext E.out) (h5.out.ext E.out) r6)).mono ?_; rintro e w1 ⟨rfl, he⟩; rw [g]; have E1 := zh (E.out.tr he); have KAx := KA.out.ext he; obtain ⟨x0, x1, x2, x3, x4, x5, x6, x7⟩ := Bk.k8 KAx; clear he KAx)
   | (go_at_call 143; refine (HX.out _ E1.out).mono ?_; rintro e w2 ⟨rfl, he⟩; have E2 := zh (E1.out.tr he); clear he))
  go_ret
  exact ⟨wp_cond_ret hm2.out, E2.out⟩
 ·have hm : Hid (M.wat x = false) := zh (by unfold M.wat; rw [g, decide_eq_false hn]; rfl)
  have hb : ((x.States.length : Int) == (x.Box.Cores.length : Int)) = false := beq_eq_false_iff_ne.2 (by omega)
  clear hn
  go_wp2_with (go_at_call 119; refine (impl_MachineValid _ x.Box _ (Rv.mkMachine (h0.out.ext E.out) (h1.out.ext E.out) (h2.out.ext E.out) (h3.out.ext E.out) (h4.out.ext E.out) (h5.out.ext E.out) r6)).mono ?_; rintro e w1 ⟨rfl, he⟩; rw [g]; have E1 := zh (E.out.tr he); have KAx := KA.out.ext he; obtain ⟨x0, x1, x2, x3, x4, x5, x6, x7⟩ := Bk.k8 KAx; clear he KAx)
  go_ret
  exact ⟨wp_cond_ret hm.out.symm, E1.out⟩
theorem spec_WatchValid (v : Value) (x : Watch) (w : World) (h : Rv w v x) :
  Calls Tryz.prog 33 #[v] w fun e w' => e = .returned (.bool (M.wat x)) ∧ Ext w w' := by
 obtain ⟨a0, c0, a1, c1, a2, c2, a3, c3, a4, c4, a5, c5, a7, c7, rfl, r6, h0, l0, h1, l1, h2, l2, h3, l3, h4, l4, h5, l5, h7, l7⟩ := h.openWatch
 clear h
 go_enter Tryz.func33, Tryz.ntmps33
 go_upto_region 1 with (fail)
 refine abs_world (fun W => Ext w W ∧ Bk W w.heap.size [.slice a0 x.Box.Plan.Parts.length c0, .slice a1 x.Box.Plan.Channels.length c1, .slice a2 x.Box.Plan.Slots.length c2, .slice a3 x.Box.Programs.length c3, .slice a4 x.Box.Cores.length c4, .slice a5 x.Box.Holds.length c5, .int .i64 x.Box.Tick, .slice a7 x.States.length c7] 49) ⟨(Ext.refl _).alloc _, Bk.new _ _ _⟩ ?_
 rintro W ⟨e1, kA⟩
 have E := zh e1
 have KA := zh kA
 clear e1 kA
 go_wp2
 go_loopw [3] (fun i wr => ∃ k : Nat, k ≤ x.States.length ∧ i = .int .i64 k ∧ Ext W wr ∧ ∀ (j : Nat) (y : Health), j < k → x.States[j]? = some y → M.hh y = true) (fun i _ => x.States.length - (intOf i).toNat)
 case atStart => exact ⟨0, Nat.zero_le _, rfl, Ext.refl _, fun j x hj _ => by omega⟩
 case round =>
  obtain ⟨k, hk, rfl, er, hall⟩ := hrel
  have ER := zh (E.out.tr er)
  have EW := zh er
  have KR := zh (KA.out.ext er)
  have HA := zh hall
  clear er hall
  obtain ⟨d0, d1, d2, d3, d4, d5, d6, d7⟩ := Bk.k8 KR.out
  by_cases hkt : k < x.States.length
  ·obtain ⟨b, o, y, rfl, hlt, hx, hc0, hc1, hrx, hyv⟩ := (h7.out.ext ER.out).atHealth k hkt
   cases g : M.hh y
   ·have hm : Hid (M.wat x = false) := zh (by
     cases e : M.wat x
     ·rfl
     ·have := (M.wat_iff.1 e).hh y (List.mem_of_getElem? hx.out)
      rw [this] at g
      cases g)
    go_wp2_with (go_at_call 72; refine (spec_HealthValid _ y _ hyv.out).mono ?_; rintro e w1 ⟨rfl, he⟩; rw [g]; have E1 := zh (ER.out.tr he); clear he)
    go_ret
    exact ⟨wp_cond_ret hm.out.symm, E1.out⟩
   ·go_wp2_with (go_at_call 72; refine (spec_HealthValid _ y _ hyv.out).mono ?_; rintro e w1 ⟨rfl, he⟩; rw [g]; have E1 := zh (EW.out.tr he); clear he)
    go_roundw
    case rel => exact ⟨k + 1, by omega, by go_num, E1.out, fun j z hj hy => by
     by_cases e : j = k
     ·subst e; rw [hx.out] at hy; obtain rfl := Option.some.inj hy; exact g
     ·exact HA.out j z (by omega) hy⟩
    case measure => simp [intOf]; omega
  ·obtain rfl : k = x.States.length := by omega
   have hA : Hid (x.States.all M.hh = true) := zh (List.all_eq_true.2 fun y hx => by
    obtain ⟨j, hj, rfl⟩ := List.getElem_of_mem hx
    exact HA.out j _ hj (List.getElem?_eq_getElem hj))
   clear HA EW hk hkt
   cases g : M.mv x.Box
   ·have hm : Hid (M.wat x = false) := zh (by unfold M.wat; rw [g]; rfl)
    go_wp2_with (go_at_call 73; refine (spec_MachineValid _ x.Box _ (Rv.mkMachine (h0.out.ext ER.out) (h1.out.ext ER.out) (h2.out.ext ER.out) (h3.out.ext ER.out) (h4.out.ext ER.out) (h5.out.ext ER.out) r6)).mono ?_; rintro e w1 ⟨rfl, he⟩; rw [g]; have E1 := zh (ER.out.tr he); have KAx := KR.out.ext he; obtain ⟨x0, x1, x2, x3, x4, x5, x6, x7⟩ := Bk.k8 KAx; clear he KAx)
    go_ret
    exact ⟨wp_cond_ret hm.out.symm, E1.out⟩
   by_cases hn : x.States.length = x.Box.Cores.length
   ·have hm : Hid (M.wat x = true) := zh (by unfold M.wat; rw [g, decide_eq_true hn, hA.out]; rfl)
    have hb : ((x.States.length : Int) == (x.Box.Cores.length : Int)) = true := beq_iff_eq.2 (by omega)
    clear hn
    go_wp2_with (go_at_call 73; refine (spec_MachineValid _ x.Box _ (Rv.mkMachine (h0.out.ext ER.out) (h1.out.ext ER.out) (h2.out.ext ER.out) (h3.out.ext ER.out) (h4.out.ext ER.out) (h5.out.ext ER.out) r6)).mono ?_; rintro e w1 ⟨rfl, he⟩; rw [g]; have E1 := zh (ER.out.tr he); have KAx := KR.out.ext he; obtain ⟨x0, x1, x2, x3, x4, x5, x6, x7⟩ := Bk.k8 KAx; clear he KAx)
    go_ret
    exact ⟨wp_cond_ret hm.out.symm, E1.out⟩
   ·have hm : Hid (M.wat x = false) := zh (by unfold M.wat; rw [g, decide_eq_false hn]; rfl)
    have hb : ((x.States.length : Int) == (x.Box.Cores.length : Int)) = false := beq_eq_false_iff_ne.2 (by omega)
    clear hn
    go_wp2_with (go_at_call 73; refine (spec_MachineValid _ x.Box _ (Rv.mkMachine (h0.out.ext ER.out) (h1.out.ext ER.out) (h2.out.ext ER.out) (h3.out.ext ER.out) (h4.out.ext ER.out) (h5.out.ext ER.out) r6)).mono ?_; rintro e w1 ⟨rfl, he⟩; rw [g]; have E1 := zh (ER.out.tr he); have KAx := KR.out.ext he; obtain ⟨x0, x1, x2, x3, x4, x5, x6, x7⟩ := Bk.k8 KAx; clear he KAx)
    go_ret
    exact ⟨wp_cond_ret hm.out.symm, E1.out⟩
theorem impl_copyOf_Watch (v : Value) (x : Watch) (w : World) (h : Rv w v x) (hn : GT.tot x.Box ≤ 1048576) (hs : x.States.length ≤ 100000000) :
  Calls Tryz.prog 83 #[v] w fun e w' => ∃ v', e = .returned v' ∧ Ov w.heap.size w' v' x ∧ Ext w w' := by
 obtain ⟨a0, c0, a1, c1, a2, c2, a3, c3, a4, c4, a5, c5, a7, c7, rfl, r6, h0, l0, h1, l1, h2, l2, h3, l3, h4, l4, h5, l5, h7, l7⟩ := h.openWatch
 clear h
 go_enter Tryz.func83, Tryz.ntmps83
 go_upto_region 1 with (fail)
 refine abs_world (fun W => Ext w W ∧ Bk W w.heap.size [.slice a0 x.Box.Plan.Parts.length c0, .slice a1 x.Box.Plan.Channels.length c1, .slice a2 x.Box.Plan.Slots.length c2, .slice a3 x.Box.Programs.length c3, .slice a4 x.Box.Cores.length c4, .slice a5 x.Box.Holds.length c5, .int .i64 x.Box.Tick, .slice a7 x.States.length c7] 49 ∧ Bk W (w.heap.size + 1) [.slice none 0 0, .slice none 0 0, .slice none 0 0, .slice none 0 0, .slice none 0 0, .slice none 0 0, .int .i64 0, .slice none 0 0] 49) ⟨((Ext.refl _).alloc _).alloc _, (Bk.new _ _ _).ext ((Ext.refl _).alloc _), Bk.new1 _ _ _ _⟩ ?_
 rintro W ⟨e1, kA, kB⟩
 have E := zh e1
 have KA := zh kA
 have KB := zh kB
 obtain ⟨d0, d1, d2, d3, d4, d5, d6, d7⟩ := Bk.k8 kA
 have ltA := kA.lt
 have ltB := kB.lt
 clear e1 kA kB
 go_region_held3 (fun u => u.cell? ⟨w.heap.size, 0, none⟩ = some (.slice a0 x.Box.Plan.Parts.length c0) ∧ u.cell? ⟨w.heap.size, 1, none⟩ = some (.slice a1 x.Box.Plan.Channels.length c1) ∧ u.cell? ⟨w.heap.size, 2, none⟩ = some (.slice a2 x.Box.Plan.Slots.length c2) ∧ u.cell? ⟨w.heap.size, 3, none⟩ = some (.slice a3 x.Box.Programs.length c3) ∧ u.cell? ⟨w.heap.size, 4, none⟩ = some (.slice a4 x.Box.Cores.length c4) ∧ u.cell? ⟨w.heap.size, 5, none⟩ = some (.slice a5 x.Box.Holds.length c5) ∧ u.cell? ⟨w.heap.size, 6, none⟩ = some (.int .i64 x.Box.Tick) ∧ u.cell? ⟨w.heap.size, 7, none⟩ = some (.slice a7 x.States.length c7))
  (first
   | go_keep
   | exact ⟨(cell_ext X1.out ltA).trans d0, (cell_ext X1.out ltA).trans d1, (cell_ext X1.out ltA).trans d2, (cell_ext X1.out ltA).trans d3, (cell_ext X1.out ltA).trans d4, (cell_ext X1.out ltA).trans d5, (cell_ext X1.out ltA).trans d6, (cell_ext X1.out ltA).trans d7⟩
   | exact ⟨(cell_ext X2.out ltA).trans d0, (cell_ext X2.out ltA).trans d1, (cell_ext X2.out ltA).trans d2, (cell_ext X2.out ltA).trans d3, (cell_ext X2.out ltA).trans d4, (cell_ext X2.out ltA).trans d5, (cell_ext X2.out ltA).trans d6, (cell_ext X2.out ltA).trans d7⟩
   | exact ⟨((KA.out.ext X2.out).puts_ne (b := w.heap.size) (c := w.heap.size + 1) (o := 0) (ds := [.slice t0 x.Box.Plan.Parts.length u0, .slice t1 x.Box.Plan.Channels.length u1, .slice t2 x.Box.Plan.Slots.length u2, .slice t3 x.Box.Programs.length u3, .slice t4 x.Box.Cores.length u4, .slice t5 x.Box.Holds.length u5, .int .i64 x.Box.Tick, .slice t7 x.States.length u7]) (by omega)).cell (j := 0) rfl, ((KA.out.ext X2.out).puts_ne (b := w.heap.size) (c := w.heap.size + 1) (o := 0) (ds := [.slice t0 x.Box.Plan.Parts.length u0, .slice t1 x.Box.Plan.Channels.length u1, .slice t2 x.Box.Plan.Slots.length u2, .slice t3 x.Box.Programs.length u3, .slice t4 x.Box.Cores.length u4, .slice t5 x.Box.Holds.length u5, .int .i64 x.Box.Tick, .slice t7 x.States.length u7]) (by omega)).cell (j := 1) rfl, ((KA.out.ext X2.out).puts_ne (b := w.heap.size) (c := w.heap.size + 1) (o := 0) (ds := [.slice t0 x.Box.Plan.Parts.length u0, .slice t1 x.Box.Plan.Channels.length u1, .slice t2 x.Box.Plan.Slots.length u2, .slice t3 x.Box.Programs.length u3, .slice t4 x.Box.Cores.length u4, .slice t5 x.Box.Holds.length u5, .int .i64 x.Box.Tick, .slice t7 x.States.length u7]) (by omega)).cell (j := 2) rfl, ((KA.out.ext X2.out).puts_ne (b := w.heap.size) (c := w.heap.size + 1) (o := 0) (ds := [.slice t0 x.Box.Plan.Parts.length u0, .slice t1 x.Box.Plan.Channels.length u1, .slice t2 x.Box.Plan.Slots.length u2, .slice t3 x.Box.Programs.length u3, .slice t4 x.Box.Cores.length u4, .slice t5 x.Box.Holds.length u5, .int .i64 x.Box.Tick, .slice t7 x.States.length u7]) (by omega)).cell (j := 3) rfl, ((KA.out.ext X2.out).puts_ne (b := w.heap.size) (c := w.heap.size + 1) (o := 0) (ds := [.slice t0 x.Box.Plan.Parts.length u0, .slice t1 x.Box.Plan.Channels.length u1, .slice t2 x.Box.Plan.Slots.length u2, .slice t3 x.Box.Programs.length u3, .slice t4 x.Box.Cores.length u4, .slice t5 x.Box.Holds.length u5, .int .i64 x.Box.Tick, .slice t7 x.States.length u7]) (by omega)).cell (j := 4) rfl, ((KA.out.ext X2.out).puts_ne (b := w.heap.size) (c := w.heap.size + 1) (o := 0) (ds := [.slice t0 x.Box.Plan.Parts.length u0, .slice t1 x.Box.Plan.Channels.length u1, .slice t2 x.Box.Plan.Slots.length u2, .slice t3 x.Box.Programs.length u3, .slice t4 x.Box.Cores.length u4, .slice t5 x.Box.Holds.length u5, .int .i64 x.Box.Tick, .slice t7 x.States.length u7]) (by omega)).cell (j := 5) rfl, ((KA.out.ext X2.out).puts_ne (b := w.heap.size) (c := w.heap.size + 1) (o := 0) (ds := [.slice t0 x.Box.Plan.Parts.length u0, .slice t1 x.Box.Plan.Channels.length u1, .slice t2 x.Box.Plan.Slots.length u2, .slice t3 x.Box.Programs.length u3, .slice t4 x.Box.Cores.length u4, .slice t5 x.Box.Holds.length u5, .int .i64 x.Box.Tick, .slice t7 x.States.length u7]) (by omega)).cell (j := 6) rfl, ((KA.out.ext X2.out).puts_ne (b := w.heap.size) (c := w.heap.size + 1) (o := 0) (ds := [.slice t0 x.Box.Plan.Parts.length u0, .slice t1 x.Box.Plan.Channels.length u1, .slice t2 x.Box.Plan.Slots.length u2, .slice t3 x.Box.Programs.length u3, .slice t4 x.Box.Cores.length u4, .slice t5 x.Box.Holds.length u5, .int .i64 x.Box.Tick, .slice t7 x.States.length u7]) (by omega)).cell (j := 7) rfl⟩)
  (first
   | (go_at_call 125; refine (impl_copyOf_Machine _ x.Box _ (Rv.mkMachine (h0.out.ext (E.out.tr (Ext.refl _).drew)) (h1.out.ext (E.out.tr (Ext.refl _).drew)) (h2.out.ext (E.out.tr (Ext.refl _).drew)) (h3.out.ext (E.out.tr (Ext.refl _).drew)) (h4.out.ext (E.out.tr (Ext.refl _).drew)) (h5.out.ext (E.out.tr (Ext.refl _).drew)) r6) hn).mono ?_; rintro e w1 ⟨v1, rfl, hov, he⟩; obtain ⟨t0, u0, t1, u1, t2, u2, t3, u3, t4, u4, t5, u5, F1, rfl, en1, ow1⟩ := hov.openE; have X1 : Hid (Ext W w1) := zh ((Ext.refl _).drew.tr he); have EN1 := zh en1; have OW1 := zh ow1; clear hov en1 ow1 he)
   | (go_at_call 148; have _t := X1; refine (impl_clone_Health _ _ _ _ ((h7.out.ext (E.out.tr X1.out)).choose_spec) hs).mono ?_; rintro e w2 ⟨v2, F', rfl, ho', hF', _, ex1⟩; obtain ⟨F2, s2, ow2⟩ := ho'.flat; obtain ⟨t7, u7, rfl, _⟩ := id s2; have X2 : Hid (Ext W w2) := zh (X1.out.tr ex1); have X12 := zh ex1; have S2 := zh s2; have OW2 := zh ow2; have KBx := KB.out.ext X2.out; obtain ⟨z0, z1, z2, z3, z4, z5, z6, z7⟩ := Bk.k8 KBx; have zf := KBx.fz; have ltZ := KBx.lt; clear ho' s2 ow2 ex1 hF' KBx))
 have KB2 := KB.out.ext X2.out
 obtain ⟨z0, z1, z2, z3, z4, z5, z6, z7⟩ := Bk.k8 KB2
 have zf := KB2.fz
 have EN := zh (encWatch (GT.ext EN1.out X12.out) S2.out)
 have hs0 := E.out.sz
 have hd : W.drew.heap.size = W.heap.size := rfl
 have OX : Own w.heap.size w2 (F1 ++ F2) := ((OW1.out.ext X12.out).mono (by omega)).join (OW2.out.mono (by have := X1.out.sz; omega)) (fun k h1 h2 => by have := OW1.out.lt h1; have := (OW2.out.2 k h2).1; omega)
 have hZ : w.heap.size + 1 ∉ F1 ++ F2 := fun hm => by
  rcases List.mem_append.1 hm with hm | hm
  ·have := (OW1.out.2 _ hm).1; omega
  ·have := (OW2.out.2 _ hm).1; have := X1.out.sz; omega
 go_wp2_with fail
 refine bodyPost_ret (v := .agg #[.slice t0 x.Box.Plan.Parts.length u0, .slice t1 x.Box.Plan.Channels.length u1, .slice t2 x.Box.Plan.Slots.length u2, .slice t3 x.Box.Programs.length u3, .slice t4 x.Box.Cores.length u4, .slice t5 x.Box.Holds.length u5, .int .i64 x.Box.Tick, .slice t7 x.States.length u7]) (by simp [results, Tryz.results83, go_sem, z0, z1, z2, z3, z4, z5, z6, z7]) rfl ⟨_, rfl, ⟨_, _, rfl, enc_puts (c := w.heap.size + 1) (o := 0) (ds := [.slice t0 x.Box.Plan.Parts.length u0, .slice t1 x.Box.Plan.Channels.length u1, .slice t2 x.Box.Plan.Slots.length u2, .slice t3 x.Box.Programs.length u3, .slice t4 x.Box.Cores.length u4, .slice t5 x.Box.Holds.length u5, .int .i64 x.Box.Tick, .slice t7 x.States.length u7]) EN.out hZ, OX.puts (b := w.heap.size + 1) (o := 0) [.slice t0 x.Box.Plan.Parts.length u0, .slice t1 x.Box.Plan.Channels.length u1, .slice t2 x.Box.Plan.Slots.length u2, .slice t3 x.Box.Programs.length u3, .slice t4 x.Box.Cores.length u4, .slice t5 x.Box.Holds.length u5, .int .i64 x.Box.Tick, .slice t7 x.States.length u7]⟩, ?_⟩
 exact Ext.puts (b := w.heap.size + 1) (o := 0) (by omega) [.slice t0 x.Box.Plan.Parts.length u0, .slice t1 x.Box.Plan.Channels.length u1, .slice t2 x.Box.Plan.Slots.length u2, .slice t3 x.Box.Programs.length u3, .slice t4 x.Box.Cores.length u4, .slice t5 x.Box.Holds.length u5, .int .i64 x.Box.Tick, .slice t7 x.States.length u7] (E.out.tr X2.out)
end Sk
