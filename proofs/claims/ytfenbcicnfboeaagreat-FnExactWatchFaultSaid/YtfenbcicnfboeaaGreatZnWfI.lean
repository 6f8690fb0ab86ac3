/- Contracts of functions of the given program, and lemmas for them: each theorem states the condition under which it holds. -/
import Derived.Test.YtfenbcicnfboeaaGreatChecked
import Derived.Deep.CutBlock
import Derived.Deep.CutRange
import Derived.Test.YtfenbcicnfboeaaGreatZmFltI
namespace Sk
open Go Go.Proofs Go.RowKit
set_option maxHeartbeats 4000000
set_option maxRecDepth 100000
set_option linter.unusedVariables false
set_option linter.unusedSimpArgs false
theorem Om.openW {L : Nat} {w : World} {b : Nat} {x : Watch} {F : List Nat} (h : Om L w b 0 x F) : ∃ p0 q0 p1 q1 p2 q2 p3 q3 p4 q4 p5 q5 p7 q7,
  w.cell? ⟨b, 0, none⟩ = some (.slice p0 x.Box.Plan.Parts.length q0) ∧ w.cell? ⟨b, 1, none⟩ = some (.slice p1 x.Box.Plan.Channels.length q1) ∧ w.cell? ⟨b, 2, none⟩ = some (.slice p2 x.Box.Plan.Slots.length q2) ∧ w.cell? ⟨b, 3, none⟩ = some (.slice p3 x.Box.Programs.length q3) ∧ w.cell? ⟨b, 4, none⟩ = some (.slice p4 x.Box.Cores.length q4) ∧ w.cell? ⟨b, 5, none⟩ = some (.slice p5 x.Box.Holds.length q5) ∧ w.cell? ⟨b, 6, none⟩ = some (.int .i64 x.Box.Tick) ∧ w.cell? ⟨b, 7, none⟩ = some (.slice p7 x.States.length q7) ∧
  GT.enc w [.slice p0 x.Box.Plan.Parts.length q0, .slice p1 x.Box.Plan.Channels.length q1, .slice p2 x.Box.Plan.Slots.length q2, .slice p3 x.Box.Programs.length q3, .slice p4 x.Box.Cores.length q4, .slice p5 x.Box.Holds.length q5, .int .i64 x.Box.Tick, .slice p7 x.States.length q7] x F ∧ Own L w F := by
 obtain ⟨cs, hen, hat, ho⟩ := h
 obtain ⟨v0, v1, v2, v3, v4, v5, v7, G0, G1, G2, G3, G4, G5, G7, rfl, ⟨t0, u0, rfl, _⟩, ⟨t1, u1, rfl, _⟩, ⟨t2, u2, rfl, _⟩, ⟨t3, u3, rfl, _⟩, ⟨t4, u4, rfl, _⟩, ⟨t5, u5, rfl, _⟩, ⟨t7, u7, rfl, _⟩, _, _⟩ := id hen
 exact ⟨_, _, _, _, _, _, _, _, _, _, _, _, _, _, by simpa using hat 0 _ rfl, by simpa using hat 1 _ rfl, by simpa using hat 2 _ rfl, by simpa using hat 3 _ rfl, by simpa using hat 4 _ rfl, by simpa using hat 5 _ rfl, by simpa using hat 6 _ rfl, by simpa using hat 7 _ rfl, hen, (List.nodup_cons.1 ho.1).2, fun k hk => ho.2 k (List.mem_cons_of_mem _ hk)⟩
/-- A monitor after a fault. -/
noncomputable def M.watchFault (x : Watch) (t : List Int) (n f : Int) : Watch × Int :=
 if M.wat x && (M.ht t && (M.inn n 0 ((x.States.length : Int) - 1) && M.inn f 0 3)) then M.wfl x t n.toNat f else (⟨M.mz, []⟩, -1)
theorem M.watchFault_f {x : Watch} {t : List Int} {n f : Int} (h : (M.wat x && (M.ht t && (M.inn n 0 ((x.States.length : Int) - 1) && M.inn f 0 3))) = false) : M.watchFault x t n f = (⟨M.mz, []⟩, -1) := if_neg (by rw [h]; decide)
theorem M.watchFault_t {x : Watch} {t : List Int} {n : Nat} {f : Int} (h0 : M.wat x = true) (h1 : M.ht t = true) (h2 : M.inn n 0 ((x.States.length : Int) - 1) = true) (h3 : M.inn f 0 3 = true) : M.watchFault x t n f = M.wfl x t n f := by
 unfold M.watchFault; rw [h0, h1, h2, h3]; rfl
theorem impl_WatchFault (v vt : Value) (x : Watch) (t : List Int) (n f : Int) (w : World) (h : Rv w v x) (ht : Rs w vt t) :
  Calls Tryz.prog 8 #[v, vt, .int .i64 n, .int .i64 f] w fun e w' => ∃ v', e = .returned (.tuple #[v', .int .i64 (M.watchFault x t n f).2]) ∧ Ov w.heap.size w' v' (M.watchFault x t n f).1 ∧ Ext w w' := by
 have H := Lib.hid h
 have HT := Lib.hid ht
 obtain ⟨ta, tc, rfl, htl⟩ := ht.form
 obtain ⟨a0, c0, a1, c1, a2, c2, a3, c3, a4, c4, a5, c5, a7, c7, rfl, r6, h0, l0, h1, l1, h2, l2, h3, l3, h4, l4, h5, l5, h7, l7⟩ := h.openWatch
 clear h ht
 go_enter Tryz.func8, Tryz.ntmps8
 go_upto_region 1 with (fail)
 refine abs_world (fun W => Ext w W ∧ Bk W w.heap.size [.slice a0 x.Box.Plan.Parts.length c0, .slice a1 x.Box.Plan.Channels.length c1, .slice a2 x.Box.Plan.Slots.length c2, .slice a3 x.Box.Programs.length c3, .slice a4 x.Box.Cores.length c4, .slice a5 x.Box.Holds.length c5, .int .i64 x.Box.Tick, .slice a7 x.States.length c7] 49 ∧ Bk W (w.heap.size + 1) [.slice none 0 0, .slice none 0 0, .slice none 0 0, .slice none 0 0, .slice none 0 0, .slice none 0 0, .int .i64 0, .slice none 0 0] 49) ⟨((Ext.refl _).alloc _).alloc _, (Bk.new _ _ _).ext ((Ext.refl _).alloc _), Bk.new1 _ _ _ _⟩ ?_
 rintro W ⟨e1, kA, kB⟩
 have HE0 := Lib.hid e1
 have KA0 := Lib.hid kA
 have KB0 := Lib.hid kB
 have d0 := kA.cell (j := 0) rfl
 have d1 := kA.cell (j := 1) rfl
 have d2 := kA.cell (j := 2) rfl
 have d3 := kA.cell (j := 3) rfl
 have d4 := kA.cell (j := 4) rfl
 have d5 := kA.cell (j := 5) rfl
 have d6 := kA.cell (j := 6) rfl
 have d7 := kA.cell (j := 7) rfl
 have ltA := kA.lt
 clear e1 kA kB
 have hwr : IntKind.i64.wrap ((x.States.length : Int) - 1) = (x.States.length : Int) - 1 := wrap_small (by omega) (by omega)
 cases g0 : M.wat x
 ·have g : (M.wat x && (M.ht t && (M.inn n 0 ((x.States.length : Int) - 1) && M.inn f 0 3))) = false := by rw [g0]; simp
  go_wp2_with (first
   | (go_at_call 23; refine (impl_WatchValid _ x _ (H.out.ext HE0.out)).mono ?_; rintro e w0 ⟨rfl, he⟩; rw [g0]; have E := Lib.hid (HE0.out.tr he); have KA := Lib.hid (KA0.out.ext he); have KB := Lib.hid (KB0.out.ext he); have x0 := KA.out.cell (j := 0) rfl; have x1 := KA.out.cell (j := 1) rfl; have x2 := KA.out.cell (j := 2) rfl; have x3 := KA.out.cell (j := 3) rfl; have x4 := KA.out.cell (j := 4) rfl; have x5 := KA.out.cell (j := 5) rfl; have x6 := KA.out.cell (j := 6) rfl; have x7 := KA.out.cell (j := 7) rfl; have ltA := KA.out.lt; have z0 := KB.out.cell (j := 0) rfl; have z1 := KB.out.cell (j := 1) rfl; have z2 := KB.out.cell (j := 2) rfl; have z3 := KB.out.cell (j := 3) rfl; have z4 := KB.out.cell (j := 4) rfl; have z5 := KB.out.cell (j := 5) rfl; have z6 := KB.out.cell (j := 6) rfl; have z7 := KB.out.cell (j := 7) rfl; have zf := KB.out.fz; have ltZ := KB.out.lt; clear he)
   | (go_at_call 24; refine (impl_HealthTable _ t _ (HT.out.ext E.out)).mono ?_; rintro e w0' ⟨rfl, he⟩; rw [g1]; replace E := Lib.hid (E.out.tr he); replace KA := Lib.hid (KA.out.ext he); replace KB := Lib.hid (KB.out.ext he); have x0 := KA.out.cell (j := 0) rfl; have x1 := KA.out.cell (j := 1) rfl; have x2 := KA.out.cell (j := 2) rfl; have x3 := KA.out.cell (j := 3) rfl; have x4 := KA.out.cell (j := 4) rfl; have x5 := KA.out.cell (j := 5) rfl; have x6 := KA.out.cell (j := 6) rfl; have x7 := KA.out.cell (j := 7) rfl; have ltA := KA.out.lt; have z0 := KB.out.cell (j := 0) rfl; have z1 := KB.out.cell (j := 1) rfl; have z2 := KB.out.cell (j := 2) rfl; have z3 := KB.out.cell (j := 3) rfl; have z4 := KB.out.cell (j := 4) rfl; have z5 := KB.out.cell (j := 5) rfl; have z6 := KB.out.cell (j := 6) rfl; have z7 := KB.out.cell (j := 7) rfl; have zf := KB.out.fz; have ltZ := KB.out.lt; clear he)
   | (go_at_call 25; refine (impl_in _ _ _ _).mono ?_; rintro e w9 ⟨rfl, rfl⟩; rw [g2])
   | (go_at_call 26; refine (impl_isFault _ _).mono ?_; rintro e w9 ⟨rfl, rfl⟩; rw [g3]))
  refine bodyPost_ret (v := .tuple #[.agg #[.slice none 0 0, .slice none 0 0, .slice none 0 0, .slice none 0 0, .slice none 0 0, .slice none 0 0, .int .i64 0, .slice none 0 0], .int .i64 (-1)]) (by simp [results, Tryz.results8, go_sem, z0, z1, z2, z3, z4, z5, z6, z7]) rfl ⟨_, by rw [M.watchFault_f g], by rw [M.watchFault_f g]; exact Ov.wz _ _, ((((((((E.out).set (by simp) _).set (by simp) _).set (by simp) _).set (by simp) _).set (by simp) _).set (by simp) _).set (by simp) _).set (by simp) _⟩
 cases g1 : M.ht t
 ·have g : (M.wat x && (M.ht t && (M.inn n 0 ((x.States.length : Int) - 1) && M.inn f 0 3))) = false := by rw [g1]; simp
  go_wp2_with (first
   | (go_at_call 23; refine (impl_WatchValid _ x _ (H.out.ext HE0.out)).mono ?_; rintro e w0 ⟨rfl, he⟩; rw [g0]; have E := Lib.hid (HE0.out.tr he); have KA := Lib.hid (KA0.out.ext he); have KB := Lib.hid (KB0.out.ext he); have x0 := KA.out.cell (j := 0) rfl; have x1 := KA.out.cell (j := 1) rfl; have x2 := KA.out.cell (j := 2) rfl; have x3 := KA.out.cell (j := 3) rfl; have x4 := KA.out.cell (j := 4) rfl; have x5 := KA.out.cell (j := 5) rfl; have x6 := KA.out.cell (j := 6) rfl; have x7 := KA.out.cell (j := 7) rfl; have ltA := KA.out.lt; have z0 := KB.out.cell (j := 0) rfl; have z1 := KB.out.cell (j := 1) rfl; have z2 := KB.out.cell (j := 2) rfl; have z3 := KB.out.cell (j := 3) rfl; have z4 := KB.out.cell (j := 4) rfl; have z5 := KB.out.cell (j := 5) rfl; have z6 := KB.out.cell (j := 6) rfl; have z7 := KB.out.cell (j := 7) rfl; have zf := KB.out.fz; have ltZ := KB.out.lt; clear he)
   | (go_at_call 24; refine (impl_HealthTable _ t _ (HT.out.ext E.out)).mono ?_; rintro e w0' ⟨rfl, he⟩; rw [g1]; replace E := Lib.hid (E.out.tr he); replace KA := Lib.hid (KA.out.ext he); replace KB := Lib.hid (KB.out.ext he); have x0 := KA.out.cell (j := 0) rfl; have x1 := KA.out.cell (j := 1) rfl; have x2 := KA.out.cell (j := 2) rfl; have x3 := KA.out.cell (j := 3) rfl; have x4 := KA.out.cell (j := 4) rfl; have x5 := KA.out.cell (j := 5) rfl; have x6 := KA.out.cell (j := 6) rfl; have x7 := KA.out.cell (j := 7) rfl; have ltA := KA.out.lt; have z0 := KB.out.cell (j := 0) rfl; have z1 := KB.out.cell (j := 1) rfl; have z2 := KB.out.cell (j := 2) rfl; have z3 := KB.out.cell (j := 3) rfl; have z4 := KB.out.cell (j := 4) rfl; have z5 := KB.out.cell (j := 5) rfl; have z6 := KB.out.cell (j := 6) rfl; have z7 := KB.out.cell (j := 7) rfl; have zf := KB.out.fz; have ltZ := KB.out.lt; clear he)
   | (go_at_call 25; refine (impl_in _ _ _ _).mono ?_; rintro e w9 ⟨rfl, rfl⟩; rw [g2])
   | (go_at_call 26; refine (impl_isFault _ _).mono ?_; rintro e w9 ⟨rfl, rfl⟩; rw [g3]))
  refine bodyPost_ret (v := .tuple #[.agg #[.slice none 0 0, .slice none 0 0, .slice none 0 0, .slice none 0 0, .slice none 0 0, .slice none 0 0, .int .i64 0, .slice none 0 0], .int .i64 (-1)]) (by simp [results, Tryz.results8, go_sem, z0, z1, z2, z3, z4, z5, z6, z7]) rfl ⟨_, by rw [M.watchFault_f g], by rw [M.watchFault_f g]; exact Ov.wz _ _, ((((((((E.out).set (by simp) _).set (by simp) _).set (by simp) _).set (by simp) _).set (by simp) _).set (by simp) _).set (by simp) _).set (by simp) _⟩
 cases g2 : M.inn n 0 ((x.States.length : Int) - 1)
 ·have g : (M.wat x && (M.ht t && (M.inn n 0 ((x.States.length : Int) - 1) && M.inn f 0 3))) = false := by rw [g2]; simp
  go_wp2_with (first
   | (go_at_call 23; refine (impl_WatchValid _ x _ (H.out.ext HE0.out)).mono ?_; rintro e w0 ⟨rfl, he⟩; rw [g0]; have E := Lib.hid (HE0.out.tr he); have KA := Lib.hid (KA0.out.ext he); have KB := Lib.hid (KB0.out.ext he); have x0 := KA.out.cell (j := 0) rfl; have x1 := KA.out.cell (j := 1) rfl; have x2 := KA.out.cell (j := 2) rfl; have x3 := KA.out.cell (j := 3) rfl; have x4 := KA.out.cell (j := 4) rfl; have x5 := KA.out.cell (j := 5) rfl; have x6 := KA.out.cell (j := 6) rfl; have x7 := KA.out.cell (j := 7) rfl; have ltA := KA.out.lt; have z0 := KB.out.cell (j := 0) rfl; have z1 := KB.out.cell (j := 1) rfl; have z2 := KB.out.cell (j := 2) rfl; have z3 := KB.out.cell (j := 3) rfl; have z4 := KB.out.cell (j := 4) rfl; have z5 := KB.out.cell (j := 5) rfl; have z6 := KB.out.cell (j := 6) rfl; have z7 := KB.out.cell (j := 7) rfl; have zf := KB.out.fz; have ltZ := KB.out.lt; clear he)
   | (go_at_call 24; refine (impl_HealthTable _ t _ (HT.out.ext E.out)).mono ?_; rintro e w0' ⟨rfl, he⟩; rw [g1]; replace E := Lib.hid (E.out.tr he); replace KA := Lib.hid (KA.out.ext he); replace KB := Lib.hid (KB.out.ext he); have x0 := KA.out.cell (j := 0) rfl; have x1 := KA.out.cell (j := 1) rfl; have x2 := KA.out.cell (j := 2) rfl; have x3 := KA.out.cell (j := 3) rfl; have x4 := KA.out.cell (j := 4) rfl; have x5 := KA.out.cell (j := 5) rfl; have x6 := KA.out.cell (j := 6) rfl; have x7 := KA.out.cell (j := 7) rfl; have ltA := KA.out.lt; have z0 := KB.out.cell (j := 0) rfl; have z1 := KB.out.cell (j := 1) rfl; have z2 := KB.out.cell (j := 2) rfl; have z3 := KB.out.cell (j := 3) rfl; have z4 := KB.out.cell (j := 4) rfl; have z5 := KB.out.cell (j := 5) rfl; have z6 := KB.out.cell (j := 6) rfl; have z7 := KB.out.cell (j := 7) rfl; have zf := KB.out.fz; have ltZ := KB.out.lt; clear he)
   | (go_at_call 25; refine (impl_in _ _ _ _).mono ?_; rintro e w9 ⟨rfl, rfl⟩; rw [g2])
   | (go_at_call 26; refine (impl_isFault _ _).mono ?_; rintro e w9 ⟨rfl, rfl⟩; rw [g3]))
  refine bodyPost_ret (v := .tuple #[.agg #[.slice none 0 0, .slice none 0 0, .slice none 0 0, .slice none 0 0, .slice none 0 0, .slice none 0 0, .int .i64 0, .slice none 0 0], .int .i64 (-1)]) (by simp [results, Tryz.results8, go_sem, z0, z1, z2, z3, z4, z5, z6, z7]) rfl ⟨_, by rw [M.watchFault_f g], by rw [M.watchFault_f g]; exact Ov.wz _ _, ((((((((E.out).set (by simp) _).set (by simp) _).set (by simp) _).set (by simp) _).set (by simp) _).set (by simp) _).set (by simp) _).set (by simp) _⟩
 cases g3 : M.inn f 0 3
 ·have g : (M.wat x && (M.ht t && (M.inn n 0 ((x.States.length : Int) - 1) && M.inn f 0 3))) = false := by rw [g3]; simp
  go_wp2_with (first
   | (go_at_call 23; refine (impl_WatchValid _ x _ (H.out.ext HE0.out)).mono ?_; rintro e w0 ⟨rfl, he⟩; rw [g0]; have E := Lib.hid (HE0.out.tr he); have KA := Lib.hid (KA0.out.ext he); have KB := Lib.hid (KB0.out.ext he); have x0 := KA.out.cell (j := 0) rfl; have x1 := KA.out.cell (j := 1) rfl; have x2 := KA.out.cell (j := 2) rfl; have x3 := KA.out.cell (j := 3) rfl; have x4 := KA.out.cell (j := 4) rfl; have x5 := KA.out.cell (j := 5) rfl; have x6 := KA.out.cell (j := 6) rfl; have x7 := KA.out.cell (j := 7) rfl; have ltA := KA.out.lt; have z0 := KB.out.cell (j := 0) rfl; have z1 := KB.out.cell (j := 1) rfl; have z2 := KB.out.cell (j := 2) rfl; have z3 := KB.out.cell (j := 3) rfl; have z4 := KB.out.cell (j := 4) rfl; have z5 := KB.out.cell (j := 5) rfl; have z6 := KB.out.cell (j := 6) rfl; have z7 := KB.out.cell (j := 7) rfl; have zf := KB.out.fz; have ltZ := KB.out.lt; clear he)
   | (go_at_call 24; refine (impl_HealthTable _ t _ (HT.out.ext E.out)).mono ?_; rintro e w0' ⟨rfl, he⟩; rw [g1]; replace E := Lib.hid (E.out.tr he); replace KA := Lib.hid (KA.out.ext he); replace KB := Lib.hid (KB.out.ext he); have x0 := KA.out.cell (j := 0) rfl; have x1 := KA.out.cell (j := 1) rfl; have x2 := KA.out.cell (j := 2) rfl; have x3 := KA.out.cell (j := 3) rfl; have x4 := KA.out.cell (j := 4) rfl; have x5 := KA.out.cell (j := 5) rfl; have x6 := KA.out.cell (j := 6) rfl; have x7 := KA.out.cell (j := 7) rfl; have ltA := KA.out.lt; have z0 := KB.out.cell (j := 0) rfl; have z1 := KB.out.cell (j := 1) rfl; have z2 := KB.out.cell (j := 2) rfl; have z3 := KB.out.cell (j := 3) rfl; have z4 := KB.out.cell (j := 4) rfl; have z5 := KB.out.cell (j := 5) rfl; have z6 := KB.out.cell (j := 6) rfl; have z7 := KB.out.cell (j := 7) rfl; have zf := KB.out.fz; have ltZ := KB.out.lt; clear he)
   | (go_at_call 25; refine (impl_in _ _ _ _).mono ?_; rintro e w9 ⟨rfl, rfl⟩; rw [g2])
   | (go_at_call 26; refine (impl_isFault _ _).mono ?_; rintro e w9 ⟨rfl, rfl⟩; rw [g3]))
  refine bodyPost_ret (v := .tuple #[.agg #[.slice none 0 0, .slice none 0 0, .slice none 0 0, .slice none 0 0, .slice none 0 0, .slice none 0 0, .int .i64 0, .slice none 0 0], .int .i64 (-1)]) (by simp [results, Tryz.results8, go_sem, z0, z1, z2, z3, z4, z5, z6, z7]) rfl ⟨_, by rw [M.watchFault_f g], by rw [M.watchFault_f g]; exact Ov.wz _ _, ((((((((E.out).set (by simp) _).set (by simp) _).set (by simp) _).set (by simp) _).set (by simp) _).set (by simp) _).set (by simp) _).set (by simp) _⟩
 obtain ⟨b1, b2⟩ := M.inn_iff.1 g2
 obtain ⟨n, rfl⟩ : ∃ k : Nat, n = k := ⟨n.toNat, by omega⟩
 have hn : n < x.States.length := by omega
 have hres := Lib.hid (M.watchFault_t g0 g1 g2 g3)
 have hwv := M.wat_iff.1 g0
 have hff := M.inn_iff.1 g3
 have htot : GT.tot x.Box ≤ 1048576 := Nat.le_trans (M.mv_tot hwv.box) (by omega)
 have hsl : x.States.length ≤ 100000000 := by have := hwv.ns; have := hwv.box.nc; have := M.setv_parts hwv.box.pg.set; omega
 have HWV := Lib.hid hwv
 have HFF := Lib.hid hff
 clear hwv hff
 go_upto_region 3 with (first
   | (go_at_call 23; refine (impl_WatchValid _ x _ (H.out.ext HE0.out)).mono ?_; rintro e w0 ⟨rfl, he⟩; rw [g0]; have E := Lib.hid (HE0.out.tr he); have KA := Lib.hid (KA0.out.ext he); have KB := Lib.hid (KB0.out.ext he); have x0 := KA.out.cell (j := 0) rfl; have x1 := KA.out.cell (j := 1) rfl; have x2 := KA.out.cell (j := 2) rfl; have x3 := KA.out.cell (j := 3) rfl; have x4 := KA.out.cell (j := 4) rfl; have x5 := KA.out.cell (j := 5) rfl; have x6 := KA.out.cell (j := 6) rfl; have x7 := KA.out.cell (j := 7) rfl; have ltA := KA.out.lt; have z0 := KB.out.cell (j := 0) rfl; have z1 := KB.out.cell (j := 1) rfl; have z2 := KB.out.cell (j := 2) rfl; have z3 := KB.out.cell (j := 3) rfl; have z4 := KB.out.cell (j := 4) rfl; have z5 := KB.out.cell (j := 5) rfl; have z6 := KB.out.cell (j := 6) rfl; have z7 := KB.out.cell (j := 7) rfl; have zf := KB.out.fz; have ltZ := KB.out.lt; clear he)
   | (go_at_call 24; refine (impl_HealthTable _ t _ (HT.out.ext E.out)).mono ?_; rintro e w0' ⟨rfl, he⟩; rw [g1]; replace E := Lib.hid (E.out.tr he); replace KA := Lib.hid (KA.out.ext he); replace KB := Lib.hid (KB.out.ext he); have x0 := KA.out.cell (j := 0) rfl; have x1 := KA.out.cell (j := 1) rfl; have x2 := KA.out.cell (j := 2) rfl; have x3 := KA.out.cell (j := 3) rfl; have x4 := KA.out.cell (j := 4) rfl; have x5 := KA.out.cell (j := 5) rfl; have x6 := KA.out.cell (j := 6) rfl; have x7 := KA.out.cell (j := 7) rfl; have ltA := KA.out.lt; have z0 := KB.out.cell (j := 0) rfl; have z1 := KB.out.cell (j := 1) rfl; have z2 := KB.out.cell (j := 2) rfl; have z3 := KB.out.cell (j := 3) rfl; have z4 := KB.out.cell (j := 4) rfl; have z5 := KB.out.cell (j := 5) rfl; have z6 := KB.out.cell (j := 6) rfl; have z7 := KB.out.cell (j := 7) rfl; have zf := KB.out.fz; have ltZ := KB.out.lt; clear he)
   | (go_at_call 25; refine (impl_in _ _ _ _).mono ?_; rintro e w9 ⟨rfl, rfl⟩; rw [g2])
   | (go_at_call 26; refine (impl_isFault _ _).mono ?_; rintro e w9 ⟨rfl, rfl⟩; rw [g3]))
 have ltB0 := KB.out.lt
 go_upto_region 4 with (go_at_call 27; go_loud (refine (impl_copyOf_Watch _ x _ (H.out.ext E.out) htot hsl).mono ?_; rintro e w5 ⟨v5, rfl, hov, ex⟩; obtain ⟨cs5, F5, rfl, hen, how⟩ := hov; obtain ⟨v0, v1, v2, v3, v4, v5, v7, G0, G1, G2, G3, G4, G5, G7, rfl, ⟨t0, u0, rfl, _⟩, ⟨t1, u1, rfl, _⟩, ⟨t2, u2, rfl, _⟩, ⟨t3, u3, rfl, _⟩, ⟨t4, u4, rfl, _⟩, ⟨t5, u5, rfl, _⟩, ⟨t7, u7, rfl, _⟩, _, _⟩ := id hen; have HEN := Lib.hid hen; have HOW := Lib.hid how; have EX := Lib.hid ex; replace KB := Lib.hid (KB.out.ext ex); replace KA := Lib.hid (KA.out.ext ex); clear hen how ex))
 refine abs_world (fun W6 => Ext w5 W6 ∧ Bk W6 w5.heap.size [.slice t0 x.Box.Plan.Parts.length u0, .slice t1 x.Box.Plan.Channels.length u1, .slice t2 x.Box.Plan.Slots.length u2, .slice t3 x.Box.Programs.length u3, .slice t4 x.Box.Cores.length u4, .slice t5 x.Box.Holds.length u5, .int .i64 x.Box.Tick, .slice t7 x.States.length u7] 49) ⟨(Ext.refl _).alloc _, Bk.new _ _ _⟩ ?_
 rintro W6 ⟨E6, K6⟩
 have hs05 := EX.out.sz
 have hw0 := E.out.sz
 have ltB5 := KB.out.lt
 have om : Om w0'.heap.size W6 w5.heap.size 0 x F5 := ⟨_, GT.ext HEN.out E6, fun j u hj => by rw [Nat.zero_add]; exact K6.cell hj, List.nodup_cons.2 ⟨fun hm => Nat.lt_irrefl _ (HOW.out.lt hm), HOW.out.1⟩, fun k hk => by
  rcases List.mem_cons.1 hk with rfl | hk
  ·exact ⟨hs05, ⟨_, _, K6⟩⟩
  ·exact ⟨(HOW.out.2 k hk).1, ((HOW.out.2 k hk).2).ext E6⟩⟩
 have E7 := Lib.hid ((E.out.tr EX.out).tr E6)
 have KB6 := Lib.hid (KB.out.ext E6)
 have KA6 := Lib.hid (KA.out.ext E6)
 have HF : Hid (∀ y ∈ F5, w0'.heap.size ≤ y ∧ y < w5.heap.size) := Lib.hid (fun y hy => ⟨(HOW.out.2 y hy).1, HOW.out.lt hy⟩)
 have hs6 := E6.sz
 have hBlt := K6.lt
 have OM6 := Lib.hid om
 generalize hB : w5.heap.size = B at *
 have hR0 : w.heap.size + 1 < w0'.heap.size := ltB0
 clear om K6 E6 HEN HOW EX KB KA hB d0 d1 d2 d3 d4 d5 d6 d7 x0 x1 x2 x3 x4 x5 x6 x7 z0 z1 z2 z3 z4 z5 z6 z7 zf ltZ
 obtain ⟨r, hr⟩ : ∃ r, M.wfl x t n f = r := ⟨_, rfl⟩
 have HC := impl_fault w0'.heap.size B n x F5 (.slice ta t.length tc) t f W6 OM6.out (HT.out.ext E7.out) (by omega) HWV.out g1 hn HFF.out
 rw [hr] at HC hres
 obtain ⟨y, act⟩ := r
 simp only at HC
 replace HC := Lib.hid HC
 go_upto_region 5 with (go_at_call 28; refine HC.out.mono ?_; rintro e w7 ⟨rfl, F7, wb⟩; have WBh := Lib.hid wb; have hsz7 := wb.ch.sz; clear wb)
 have KBx := WBh.out.bk KB6.out (by omega) (fun hx => by have := (HF.out _ hx).1; omega)
 have EY := Lib.hid (WBh.out.ch.ext E7.out (by omega) (fun y hy => by have := (HF.out y hy).1; omega))
 have SB := Lib.hid WBh.out.sub
 have hbf := WBh.out.om.bk.2.2.2
 have hb7 := WBh.out.lt
 obtain ⟨p0, q0, p1, q1, p2, q2, p3, q3, p4, q4, p5, q5, p7, q7, y0, y1, y2, y3, y4, y5, y6, y7, hen8, OW⟩ := WBh.out.om.openW
 have z0 := KBx.cell (j := 0) rfl
 have z1 := KBx.cell (j := 1) rfl
 have z2 := KBx.cell (j := 2) rfl
 have z3 := KBx.cell (j := 3) rfl
 have z4 := KBx.cell (j := 4) rfl
 have z5 := KBx.cell (j := 5) rfl
 have z6 := KBx.cell (j := 6) rfl
 have z7 := KBx.cell (j := 7) rfl
 have zf := KBx.fz
 have ltZ := KBx.lt
 clear KBx
 have HEN := Lib.hid hen8
 have HOW := Lib.hid OW
 clear hen8 OW
 go_wp2
 have hZ : w.heap.size + 1 ∉ F7 := fun hm => (SB.out _ hm).elim (fun h => by have := (HF.out _ h).1; omega) (fun h => by omega)
 refine bodyPost_ret (v := .tuple #[.agg #[.slice p0 y.Box.Plan.Parts.length q0, .slice p1 y.Box.Plan.Channels.length q1, .slice p2 y.Box.Plan.Slots.length q2, .slice p3 y.Box.Programs.length q3, .slice p4 y.Box.Cores.length q4, .slice p5 y.Box.Holds.length q5, .int .i64 y.Box.Tick, .slice p7 y.States.length q7], .int .i64 act]) (by simp [results, Tryz.results8, go_sem, z0, z1, z2, z3, z4, z5, z6, z7]) rfl ⟨_, by rw [hres.out], by rw [hres.out]; exact ⟨_, _, rfl, enc_puts (c := w.heap.size + 1) (o := 0) (ds := [.slice p0 y.Box.Plan.Parts.length q0, .slice p1 y.Box.Plan.Channels.length q1, .slice p2 y.Box.Plan.Slots.length q2, .slice p3 y.Box.Programs.length q3, .slice p4 y.Box.Cores.length q4, .slice p5 y.Box.Holds.length q5, .int .i64 y.Box.Tick, .slice p7 y.States.length q7]) HEN.out hZ, ((HOW.out.mono (by omega)).puts (b := w.heap.size + 1) (o := 0) [.slice p0 y.Box.Plan.Parts.length q0, .slice p1 y.Box.Plan.Channels.length q1, .slice p2 y.Box.Plan.Slots.length q2, .slice p3 y.Box.Programs.length q3, .slice p4 y.Box.Cores.length q4, .slice p5 y.Box.Holds.length q5, .int .i64 y.Box.Tick, .slice p7 y.States.length q7])⟩, ?_⟩
 exact Ext.puts (b := w.heap.size + 1) (o := 0) (by omega) [.slice p0 y.Box.Plan.Parts.length q0, .slice p1 y.Box.Plan.Channels.length q1, .slice p2 y.Box.Plan.Slots.length q2, .slice p3 y.Box.Programs.length q3, .slice p4 y.Box.Cores.length q4, .slice p5 y.Box.Holds.length q5, .int .i64 y.Box.Tick, .slice p7 y.States.length q7] EY.out

end Sk
