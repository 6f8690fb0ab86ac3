/- Contracts of functions of the given program, and lemmas for them: each theorem states the condition under which it holds. -/
import Derived.Test.YtlejdkiihpeojaaGreatChecked
import Derived.Deep.CutBlock
import Derived.Deep.CutRange
import Derived.Test.YtlejdkiihpeojaaGreatVWSeen
import Derived.Test.YtlejdkiihpeojaaGreatSame
import Derived.Test.YtlejdkiihpeojaaGreatCopyM
namespace Sk
open Go Go.Proofs Go.RowKit
set_option maxHeartbeats 4000000
set_option maxRecDepth 100000
set_option linter.unusedVariables false
set_option linter.unusedSimpArgs false
theorem Om.ofBk {α : Type} [GT α] {L : Nat} {w : World} {b : Nat} {cs : List Value} {x : α} {F : List Nat} {T : TypeId} (hb : Bk w b cs T) (he : GT.enc w cs x F) (ho : Own L w F) (hL : L ≤ b) (hF : b ∉ F) : Om L w b 0 x F :=
 ⟨cs, he, fun j u hj => by rw [Nat.zero_add]; exact hb.cell hj, List.nodup_cons.2 ⟨hF, ho.1⟩, fun k hk => by
  rcases List.mem_cons.1 hk with rfl | hk
  ·exact ⟨hL, _, _, hb⟩
  ·exact ho.2 k hk⟩
theorem impl_FirstDiffers (v v2 : Value) (m p : Machine) (n t : Int) (w : World) (h : Rv w v m) (hk : Rv w v2 p) :
  Calls Tryz.prog 26 #[v, v2, .int .i64 n, .int .i64 t] w fun e w' => e = .returned (.int .i64 (M.firstDiffers m p n t)) ∧ Ext w w' := by
 have H := Lib.hid h
 have KP := Lib.hid hk
 obtain ⟨a0, c0, a1, c1, a2, c2, a3, c3, a4, c4, a5, c5, rfl, rt, -, l0, -, l1, -, l2, -, l3, -, l4, -, l5⟩ := h.openMachine
 obtain ⟨f0, h0, f1, h1, f2, h2, f3, h3, f4, h4, f5, h5, rfl, rt', -, l0', -, l1', -, l2', -, l3', -, l4', -, l5'⟩ := hk.openMachine
 clear h hk
 go_enter Tryz.func26, Tryz.ntmps26
 go_upto_region 1 with (fail)
 refine abs_world (fun W => Ext w W ∧ Bk W w.heap.size [.slice a0 m.Plan.Parts.length c0, .slice a1 m.Plan.Channels.length c1, .slice a2 m.Plan.Slots.length c2, .slice a3 m.Programs.length c3, .slice a4 m.Cores.length c4, .slice a5 m.Holds.length c5, .int .i64 m.Tick] 42 ∧ Bk W (w.heap.size + 1) [.slice f0 p.Plan.Parts.length h0, .slice f1 p.Plan.Channels.length h1, .slice f2 p.Plan.Slots.length h2, .slice f3 p.Programs.length h3, .slice f4 p.Cores.length h4, .slice f5 p.Holds.length h5, .int .i64 p.Tick] 42) ⟨((Ext.refl _).alloc _).alloc _, (Bk.new _ _ _).ext ((Ext.refl _).alloc _), Bk.new1 _ _ _ _⟩ ?_
 rintro W ⟨e1, kA, kB⟩
 have HE0 := Lib.hid e1
 have KA := Lib.hid kA
 have KB := Lib.hid kB
 have x0 := kA.cell (j := 0) rfl
 have y0 := kB.cell (j := 0) rfl
 have x1 := kA.cell (j := 1) rfl
 have y1 := kB.cell (j := 1) rfl
 have x2 := kA.cell (j := 2) rfl
 have y2 := kB.cell (j := 2) rfl
 have x3 := kA.cell (j := 3) rfl
 have y3 := kB.cell (j := 3) rfl
 have x4 := kA.cell (j := 4) rfl
 have y4 := kB.cell (j := 4) rfl
 have x5 := kA.cell (j := 5) rfl
 have y5 := kB.cell (j := 5) rfl
 have x6 := kA.cell (j := 6) rfl
 have y6 := kB.cell (j := 6) rfl
 have ltA := kA.lt
 have ltB := kB.lt
 clear e1 kA kB
 cases s1 : M.seen m n
 ·go_wp2_with (go_at_call 64; refine (impl_seen _ m n _ (H.out.ext HE0.out)).mono ?_; rintro e ws1 ⟨rfl, he⟩; rw [s1]; replace HE0 := Lib.hid (HE0.out.tr he); replace KA := Lib.hid (KA.out.ext he); replace KB := Lib.hid (KB.out.ext he); have x0 := KA.out.cell (j := 0) rfl; have y0 := KB.out.cell (j := 0) rfl; have x1 := KA.out.cell (j := 1) rfl; have y1 := KB.out.cell (j := 1) rfl; have x2 := KA.out.cell (j := 2) rfl; have y2 := KB.out.cell (j := 2) rfl; have x3 := KA.out.cell (j := 3) rfl; have y3 := KB.out.cell (j := 3) rfl; have x4 := KA.out.cell (j := 4) rfl; have y4 := KB.out.cell (j := 4) rfl; have x5 := KA.out.cell (j := 5) rfl; have y5 := KB.out.cell (j := 5) rfl; have x6 := KA.out.cell (j := 6) rfl; have y6 := KB.out.cell (j := 6) rfl; have ltA := KA.out.lt; have ltB := KB.out.lt; clear he)
  go_ret
  exact ⟨ret_i (M.firstDiffers_f (.inl s1)).symm, HE0.out⟩
 cases s2 : M.seen p n
 ·go_wp2_with (first
   | (go_at_call 64; have _t := gAd; refine (impl_seen _ p n _ (KP.out.ext HE0.out)).mono ?_; rintro e ws2 ⟨rfl, he⟩; rw [s2]; replace HE0 := Lib.hid (HE0.out.tr he); replace KA := Lib.hid (KA.out.ext he); replace KB := Lib.hid (KB.out.ext he); have x0 := KA.out.cell (j := 0) rfl; have y0 := KB.out.cell (j := 0) rfl; have x1 := KA.out.cell (j := 1) rfl; have y1 := KB.out.cell (j := 1) rfl; have x2 := KA.out.cell (j := 2) rfl; have y2 := KB.out.cell (j := 2) rfl; have x3 := KA.out.cell (j := 3) rfl; have y3 := KB.out.cell (j := 3) rfl; have x4 := KA.out.cell (j := 4) rfl; have y4 := KB.out.cell (j := 4) rfl; have x5 := KA.out.cell (j := 5) rfl; have y5 := KB.out.cell (j := 5) rfl; have x6 := KA.out.cell (j := 6) rfl; have y6 := KB.out.cell (j := 6) rfl; have ltA := KA.out.lt; have ltB := KB.out.lt; clear he; have gBd := trivial)
   | (go_at_call 64; refine (impl_seen _ m n _ (H.out.ext HE0.out)).mono ?_; rintro e ws1 ⟨rfl, he⟩; rw [s1]; replace HE0 := Lib.hid (HE0.out.tr he); replace KA := Lib.hid (KA.out.ext he); replace KB := Lib.hid (KB.out.ext he); have x0 := KA.out.cell (j := 0) rfl; have y0 := KB.out.cell (j := 0) rfl; have x1 := KA.out.cell (j := 1) rfl; have y1 := KB.out.cell (j := 1) rfl; have x2 := KA.out.cell (j := 2) rfl; have y2 := KB.out.cell (j := 2) rfl; have x3 := KA.out.cell (j := 3) rfl; have y3 := KB.out.cell (j := 3) rfl; have x4 := KA.out.cell (j := 4) rfl; have y4 := KB.out.cell (j := 4) rfl; have x5 := KA.out.cell (j := 5) rfl; have y5 := KB.out.cell (j := 5) rfl; have x6 := KA.out.cell (j := 6) rfl; have y6 := KB.out.cell (j := 6) rfl; have ltA := KA.out.lt; have ltB := KB.out.lt; clear he; have gAd := trivial))
  go_ret
  exact ⟨ret_i (M.firstDiffers_f (.inr (.inl s2))).symm, HE0.out⟩
 cases r1 : M.runs m t 200
 ·go_wp2_with (first
   | (go_at_call 60; have _t := gBd; refine (impl_runs _ m t 200 _ (H.out.ext HE0.out) (by decide)).mono ?_; rintro e wr1 ⟨rfl, he⟩; rw [r1]; replace HE0 := Lib.hid (HE0.out.tr he); replace KA := Lib.hid (KA.out.ext he); replace KB := Lib.hid (KB.out.ext he); have x0 := KA.out.cell (j := 0) rfl; have y0 := KB.out.cell (j := 0) rfl; have x1 := KA.out.cell (j := 1) rfl; have y1 := KB.out.cell (j := 1) rfl; have x2 := KA.out.cell (j := 2) rfl; have y2 := KB.out.cell (j := 2) rfl; have x3 := KA.out.cell (j := 3) rfl; have y3 := KB.out.cell (j := 3) rfl; have x4 := KA.out.cell (j := 4) rfl; have y4 := KB.out.cell (j := 4) rfl; have x5 := KA.out.cell (j := 5) rfl; have y5 := KB.out.cell (j := 5) rfl; have x6 := KA.out.cell (j := 6) rfl; have y6 := KB.out.cell (j := 6) rfl; have ltA := KA.out.lt; have ltB := KB.out.lt; clear he; have rAd := trivial)
   | (go_at_call 64; have _t := gAd; refine (impl_seen _ p n _ (KP.out.ext HE0.out)).mono ?_; rintro e ws2 ⟨rfl, he⟩; rw [s2]; replace HE0 := Lib.hid (HE0.out.tr he); replace KA := Lib.hid (KA.out.ext he); replace KB := Lib.hid (KB.out.ext he); have x0 := KA.out.cell (j := 0) rfl; have y0 := KB.out.cell (j := 0) rfl; have x1 := KA.out.cell (j := 1) rfl; have y1 := KB.out.cell (j := 1) rfl; have x2 := KA.out.cell (j := 2) rfl; have y2 := KB.out.cell (j := 2) rfl; have x3 := KA.out.cell (j := 3) rfl; have y3 := KB.out.cell (j := 3) rfl; have x4 := KA.out.cell (j := 4) rfl; have y4 := KB.out.cell (j := 4) rfl; have x5 := KA.out.cell (j := 5) rfl; have y5 := KB.out.cell (j := 5) rfl; have x6 := KA.out.cell (j := 6) rfl; have y6 := KB.out.cell (j := 6) rfl; have ltA := KA.out.lt; have ltB := KB.out.lt; clear he; have gBd := trivial)
   | (go_at_call 64; refine (impl_seen _ m n _ (H.out.ext HE0.out)).mono ?_; rintro e ws1 ⟨rfl, he⟩; rw [s1]; replace HE0 := Lib.hid (HE0.out.tr he); replace KA := Lib.hid (KA.out.ext he); replace KB := Lib.hid (KB.out.ext he); have x0 := KA.out.cell (j := 0) rfl; have y0 := KB.out.cell (j := 0) rfl; have x1 := KA.out.cell (j := 1) rfl; have y1 := KB.out.cell (j := 1) rfl; have x2 := KA.out.cell (j := 2) rfl; have y2 := KB.out.cell (j := 2) rfl; have x3 := KA.out.cell (j := 3) rfl; have y3 := KB.out.cell (j := 3) rfl; have x4 := KA.out.cell (j := 4) rfl; have y4 := KB.out.cell (j := 4) rfl; have x5 := KA.out.cell (j := 5) rfl; have y5 := KB.out.cell (j := 5) rfl; have x6 := KA.out.cell (j := 6) rfl; have y6 := KB.out.cell (j := 6) rfl; have ltA := KA.out.lt; have ltB := KB.out.lt; clear he; have gAd := trivial))
  go_ret
  exact ⟨ret_i (M.firstDiffers_f (.inr (.inr (.inl r1)))).symm, HE0.out⟩
 cases r2 : M.runs p t 200
 ·go_wp2_with (first
   | (go_at_call 60; have _t := rAd; refine (impl_runs _ p t 200 _ (KP.out.ext HE0.out) (by decide)).mono ?_; rintro e wr2 ⟨rfl, he⟩; rw [r2]; replace HE0 := Lib.hid (HE0.out.tr he); replace KA := Lib.hid (KA.out.ext he); replace KB := Lib.hid (KB.out.ext he); have x0 := KA.out.cell (j := 0) rfl; have y0 := KB.out.cell (j := 0) rfl; have x1 := KA.out.cell (j := 1) rfl; have y1 := KB.out.cell (j := 1) rfl; have x2 := KA.out.cell (j := 2) rfl; have y2 := KB.out.cell (j := 2) rfl; have x3 := KA.out.cell (j := 3) rfl; have y3 := KB.out.cell (j := 3) rfl; have x4 := KA.out.cell (j := 4) rfl; have y4 := KB.out.cell (j := 4) rfl; have x5 := KA.out.cell (j := 5) rfl; have y5 := KB.out.cell (j := 5) rfl; have x6 := KA.out.cell (j := 6) rfl; have y6 := KB.out.cell (j := 6) rfl; have ltA := KA.out.lt; have ltB := KB.out.lt; clear he)
   | (go_at_call 60; have _t := gBd; refine (impl_runs _ m t 200 _ (H.out.ext HE0.out) (by decide)).mono ?_; rintro e wr1 ⟨rfl, he⟩; rw [r1]; replace HE0 := Lib.hid (HE0.out.tr he); replace KA := Lib.hid (KA.out.ext he); replace KB := Lib.hid (KB.out.ext he); have x0 := KA.out.cell (j := 0) rfl; have y0 := KB.out.cell (j := 0) rfl; have x1 := KA.out.cell (j := 1) rfl; have y1 := KB.out.cell (j := 1) rfl; have x2 := KA.out.cell (j := 2) rfl; have y2 := KB.out.cell (j := 2) rfl; have x3 := KA.out.cell (j := 3) rfl; have y3 := KB.out.cell (j := 3) rfl; have x4 := KA.out.cell (j := 4) rfl; have y4 := KB.out.cell (j := 4) rfl; have x5 := KA.out.cell (j := 5) rfl; have y5 := KB.out.cell (j := 5) rfl; have x6 := KA.out.cell (j := 6) rfl; have y6 := KB.out.cell (j := 6) rfl; have ltA := KA.out.lt; have ltB := KB.out.lt; clear he; have rAd := trivial)
   | (go_at_call 64; have _t := gAd; refine (impl_seen _ p n _ (KP.out.ext HE0.out)).mono ?_; rintro e ws2 ⟨rfl, he⟩; rw [s2]; replace HE0 := Lib.hid (HE0.out.tr he); replace KA := Lib.hid (KA.out.ext he); replace KB := Lib.hid (KB.out.ext he); have x0 := KA.out.cell (j := 0) rfl; have y0 := KB.out.cell (j := 0) rfl; have x1 := KA.out.cell (j := 1) rfl; have y1 := KB.out.cell (j := 1) rfl; have x2 := KA.out.cell (j := 2) rfl; have y2 := KB.out.cell (j := 2) rfl; have x3 := KA.out.cell (j := 3) rfl; have y3 := KB.out.cell (j := 3) rfl; have x4 := KA.out.cell (j := 4) rfl; have y4 := KB.out.cell (j := 4) rfl; have x5 := KA.out.cell (j := 5) rfl; have y5 := KB.out.cell (j := 5) rfl; have x6 := KA.out.cell (j := 6) rfl; have y6 := KB.out.cell (j := 6) rfl; have ltA := KA.out.lt; have ltB := KB.out.lt; clear he; have gBd := trivial)
   | (go_at_call 64; refine (impl_seen _ m n _ (H.out.ext HE0.out)).mono ?_; rintro e ws1 ⟨rfl, he⟩; rw [s1]; replace HE0 := Lib.hid (HE0.out.tr he); replace KA := Lib.hid (KA.out.ext he); replace KB := Lib.hid (KB.out.ext he); have x0 := KA.out.cell (j := 0) rfl; have y0 := KB.out.cell (j := 0) rfl; have x1 := KA.out.cell (j := 1) rfl; have y1 := KB.out.cell (j := 1) rfl; have x2 := KA.out.cell (j := 2) rfl; have y2 := KB.out.cell (j := 2) rfl; have x3 := KA.out.cell (j := 3) rfl; have y3 := KB.out.cell (j := 3) rfl; have x4 := KA.out.cell (j := 4) rfl; have y4 := KB.out.cell (j := 4) rfl; have x5 := KA.out.cell (j := 5) rfl; have y5 := KB.out.cell (j := 5) rfl; have x6 := KA.out.cell (j := 6) rfl; have y6 := KB.out.cell (j := 6) rfl; have ltA := KA.out.lt; have ltB := KB.out.lt; clear he; have gAd := trivial))
  go_ret
  exact ⟨ret_i (M.firstDiffers_f (.inr (.inr (.inr r2)))).symm, HE0.out⟩
 obtain ⟨hv1, b0, hn1⟩ := M.seen_iff.1 s1
 obtain ⟨hv2, _, hn2⟩ := M.seen_iff.1 s2
 obtain ⟨_, ⟨ht0, ht4⟩, hT1⟩ := M.runs_iff.1 r1
 obtain ⟨_, _, hT2⟩ := M.runs_iff.1 r2
 obtain ⟨N, rfl⟩ : ∃ N : Nat, n = N := ⟨n.toNat, by omega⟩
 obtain ⟨T, rfl⟩ : ∃ T : Nat, t = T := ⟨t.toNat, by omega⟩
 replace hn1 : N < m.Cores.length := by omega
 replace hn2 : N < p.Cores.length := by omega
 have htot1 : GT.tot m ≤ 1048576 := Nat.le_trans (M.mv_tot hv1) (by omega)
 have htot2 : GT.tot p ≤ 1048576 := Nat.le_trans (M.mv_tot hv2) (by omega)
 have HV1 := Lib.hid hv1
 have HV2 := Lib.hid hv2
 have hres := Lib.hid (M.firstDiffers_t s1 s2 r1 r2)
 clear hv1 hv2
 go_upto_region 3 with (first
   | (go_at_call 60; have _t := rAd; refine (impl_runs _ p T 200 _ (KP.out.ext HE0.out) (by decide)).mono ?_; rintro e wr2 ⟨rfl, he⟩; rw [r2]; replace HE0 := Lib.hid (HE0.out.tr he); replace KA := Lib.hid (KA.out.ext he); replace KB := Lib.hid (KB.out.ext he); have x0 := KA.out.cell (j := 0) rfl; have y0 := KB.out.cell (j := 0) rfl; have x1 := KA.out.cell (j := 1) rfl; have y1 := KB.out.cell (j := 1) rfl; have x2 := KA.out.cell (j := 2) rfl; have y2 := KB.out.cell (j := 2) rfl; have x3 := KA.out.cell (j := 3) rfl; have y3 := KB.out.cell (j := 3) rfl; have x4 := KA.out.cell (j := 4) rfl; have y4 := KB.out.cell (j := 4) rfl; have x5 := KA.out.cell (j := 5) rfl; have y5 := KB.out.cell (j := 5) rfl; have x6 := KA.out.cell (j := 6) rfl; have y6 := KB.out.cell (j := 6) rfl; have ltA := KA.out.lt; have ltB := KB.out.lt; clear he)
   | (go_at_call 60; have _t := gBd; refine (impl_runs _ m T 200 _ (H.out.ext HE0.out) (by decide)).mono ?_; rintro e wr1 ⟨rfl, he⟩; rw [r1]; replace HE0 := Lib.hid (HE0.out.tr he); replace KA := Lib.hid (KA.out.ext he); replace KB := Lib.hid (KB.out.ext he); have x0 := KA.out.cell (j := 0) rfl; have y0 := KB.out.cell (j := 0) rfl; have x1 := KA.out.cell (j := 1) rfl; have y1 := KB.out.cell (j := 1) rfl; have x2 := KA.out.cell (j := 2) rfl; have y2 := KB.out.cell (j := 2) rfl; have x3 := KA.out.cell (j := 3) rfl; have y3 := KB.out.cell (j := 3) rfl; have x4 := KA.out.cell (j := 4) rfl; have y4 := KB.out.cell (j := 4) rfl; have x5 := KA.out.cell (j := 5) rfl; have y5 := KB.out.cell (j := 5) rfl; have x6 := KA.out.cell (j := 6) rfl; have y6 := KB.out.cell (j := 6) rfl; have ltA := KA.out.lt; have ltB := KB.out.lt; clear he; have rAd := trivial)
   | (go_at_call 64; have _t := gAd; refine (impl_seen _ p N _ (KP.out.ext HE0.out)).mono ?_; rintro e ws2 ⟨rfl, he⟩; rw [s2]; replace HE0 := Lib.hid (HE0.out.tr he); replace KA := Lib.hid (KA.out.ext he); replace KB := Lib.hid (KB.out.ext he); have x0 := KA.out.cell (j := 0) rfl; have y0 := KB.out.cell (j := 0) rfl; have x1 := KA.out.cell (j := 1) rfl; have y1 := KB.out.cell (j := 1) rfl; have x2 := KA.out.cell (j := 2) rfl; have y2 := KB.out.cell (j := 2) rfl; have x3 := KA.out.cell (j := 3) rfl; have y3 := KB.out.cell (j := 3) rfl; have x4 := KA.out.cell (j := 4) rfl; have y4 := KB.out.cell (j := 4) rfl; have x5 := KA.out.cell (j := 5) rfl; have y5 := KB.out.cell (j := 5) rfl; have x6 := KA.out.cell (j := 6) rfl; have y6 := KB.out.cell (j := 6) rfl; have ltA := KA.out.lt; have ltB := KB.out.lt; clear he; have gBd := trivial)
   | (go_at_call 64; refine (impl_seen _ m N _ (H.out.ext HE0.out)).mono ?_; rintro e ws1 ⟨rfl, he⟩; rw [s1]; replace HE0 := Lib.hid (HE0.out.tr he); replace KA := Lib.hid (KA.out.ext he); replace KB := Lib.hid (KB.out.ext he); have x0 := KA.out.cell (j := 0) rfl; have y0 := KB.out.cell (j := 0) rfl; have x1 := KA.out.cell (j := 1) rfl; have y1 := KB.out.cell (j := 1) rfl; have x2 := KA.out.cell (j := 2) rfl; have y2 := KB.out.cell (j := 2) rfl; have x3 := KA.out.cell (j := 3) rfl; have y3 := KB.out.cell (j := 3) rfl; have x4 := KA.out.cell (j := 4) rfl; have y4 := KB.out.cell (j := 4) rfl; have x5 := KA.out.cell (j := 5) rfl; have y5 := KB.out.cell (j := 5) rfl; have x6 := KA.out.cell (j := 6) rfl; have y6 := KB.out.cell (j := 6) rfl; have ltA := KA.out.lt; have ltB := KB.out.lt; clear he; have gAd := trivial))
 obtain ⟨wz, hwz⟩ : ∃ x : World, x = wr2 := ⟨_, rfl⟩
 subst hwz
 refine wp_region_tabs rfl 6 [(34, [34]), (35, [35]), (36, [36]), (37, [37]), (9, [9]), (10, [10])]
  (fun i vs u F => match i, vs with
   | 0, [y] => y = .agg #[.slice a0 m.Plan.Parts.length c0, .slice a1 m.Plan.Channels.length c1, .slice a2 m.Plan.Slots.length c2, .slice a3 m.Programs.length c3, .slice a4 m.Cores.length c4, .slice a5 m.Holds.length c5, .int .i64 m.Tick]
   | 1, [y] => ∃ cs, y = .agg cs.toArray ∧ GT.enc u cs m F
   | 2, [y] => y = .agg #[.slice f0 p.Plan.Parts.length h0, .slice f1 p.Plan.Channels.length h1, .slice f2 p.Plan.Slots.length h2, .slice f3 p.Programs.length h3, .slice f4 p.Cores.length h4, .slice f5 p.Holds.length h5, .int .i64 p.Tick]
   | 3, [y] => ∃ cs, y = .agg cs.toArray ∧ GT.enc u cs p F
   | 4, [y] => ∃ B9, y = .pointer (some ⟨B9, 0, none⟩) ∧ F = [B9] ∧ Bk u B9 [.slice none 0 0, .slice none 0 0, .slice none 0 0, .slice none 0 0, .slice none 0 0, .slice none 0 0, .int .i64 0] 42
   | 5, [y] => ∃ B9, y = .pointer (some ⟨B9, 0, none⟩) ∧ F = [B9] ∧ Bk u B9 [.slice none 0 0, .slice none 0 0, .slice none 0 0, .slice none 0 0, .slice none 0 0, .slice none 0 0, .int .i64 0] 42
   | _, _ => False) (by decide +kernel) ?_ ?_
 ·intro i hi oo hoo U u F hE hd hap
  have j0 := (cell_ext hE ltA).trans x0
  have j1 := (cell_ext hE ltA).trans x1
  have j2 := (cell_ext hE ltA).trans x2
  have j3 := (cell_ext hE ltA).trans x3
  have j4 := (cell_ext hE ltA).trans x4
  have j5 := (cell_ext hE ltA).trans x5
  have j6 := (cell_ext hE ltA).trans x6
  have i0 := (cell_ext hE ltB).trans y0
  have i1 := (cell_ext hE ltB).trans y1
  have i2 := (cell_ext hE ltB).trans y2
  have i3 := (cell_ext hE ltB).trans y3
  have i4 := (cell_ext hE ltB).trans y4
  have i5 := (cell_ext hE ltB).trans y5
  have i6 := (cell_ext hE ltB).trans y6
  rcases (by omega : i = 0 ∨ i = 1 ∨ i = 2 ∨ i = 3 ∨ i = 4 ∨ i = 5) with rfl | rfl | rfl | rfl | rfl | rfl
  ·cases hoo
   simp only [fr]
   intro K hK
   go_wp2
   exact hK _ [] _ (Ext.refl u) (fun _ _ => rfl) (Own.nil _ _)
  ·cases hoo
   simp only [fr]
   obtain ⟨⟨d0, -⟩, -⟩ := fa [0] (by decide +kernel) hd
   simp only [fu] at d0
   try simp only [d0]
   intro K hK
   go_wp2_with (go_at_call 45; refine (impl_copyOf_Machine _ m _ (H.out.ext (HE0.out.tr hE)) htot1).mono ?_; rintro e w' ⟨v1, rfl, hov, ex⟩; obtain ⟨cs', F', rfl, hen, how⟩ := hov)
   exact hK _ F' _ ex (fun _ h => ⟨cs', rfl, GT.ext hen h⟩) how
  ·cases hoo
   simp only [fr]
   intro K hK
   go_wp2
   exact hK _ [] _ (Ext.refl u) (fun _ _ => rfl) (Own.nil _ _)
  ·cases hoo
   simp only [fr]
   obtain ⟨⟨d0, -⟩, ⟨d1, o1⟩, ⟨d2, -⟩, -⟩ := fa [0, 1, 2] (by decide +kernel) hd
   simp only [fu] at d0 d1 d2
   try simp only [d0, d2]
   intro K hK
   go_wp2_with (go_at_call 45; refine (impl_copyOf_Machine _ p _ (KP.out.ext (HE0.out.tr hE)) htot2).mono ?_; rintro e w' ⟨v1, rfl, hov, ex⟩; obtain ⟨cs', F', rfl, hen, how⟩ := hov)
   exact hK _ F' _ ex (fun _ h => ⟨cs', rfl, GT.ext hen h⟩) how
  ·cases hoo
   simp only [fr]
   intro K hK
   go_wp2
   have b1 := Bk.new u [.slice none 0 0, .slice none 0 0, .slice none 0 0, .slice none 0 0, .slice none 0 0, .slice none 0 0, .int .i64 0] 42
   exact hK _ [u.heap.size] _ ((Ext.refl u).alloc _) (fun _ h => ⟨_, rfl, rfl, b1.ext h⟩) (b1.own (Nat.le_refl _))
  ·cases hoo
   simp only [fr]
   intro K hK
   go_wp2
   have b1 := Bk.new u [.slice none 0 0, .slice none 0 0, .slice none 0 0, .slice none 0 0, .slice none 0 0, .slice none 0 0, .int .i64 0] 42
   exact hK _ [u.heap.size] _ ((Ext.refl u).alloc _) (fun _ h => ⟨_, rfl, rfl, b1.ext h⟩) (b1.own (Nat.le_refl _))
 ·intro U u G hE hφ hap
  simp only [List.drop_succ_cons, List.drop_zero]
  simp only [fr]
  obtain ⟨⟨d0, -⟩, ⟨d1, o1⟩, ⟨d2, -⟩, ⟨d3, o3⟩, ⟨d4, o4⟩, ⟨d5, o5⟩, -⟩ := fb [0, 1, 2, 3, 4, 5] (by decide +kernel) hφ
  simp only [fu] at d0 d1 d2 d3 d4 d5
  try simp only [d0, d2]
  obtain ⟨cs1, e1, en1⟩ := d1
  obtain ⟨cs3, e3, en3⟩ := d3
  obtain ⟨B9, e9, eg9, k9⟩ := d4
  obtain ⟨B10, e10, eg10, k10⟩ := d5
  have ap13 := hap 1 3 (by omega) (by omega) (by omega)
  have ap14 := hap 1 4 (by omega) (by omega) (by omega)
  have ap15 := hap 1 5 (by omega) (by omega) (by omega)
  have ap34 := hap 3 4 (by omega) (by omega) (by omega)
  have ap35 := hap 3 5 (by omega) (by omega) (by omega)
  have ap45 := hap 4 5 (by omega) (by omega) (by omega)
  rw [eg9] at o4 ap14 ap34 ap45
  rw [eg10] at o5 ap15 ap35 ap45
  have lB9 : wz.heap.size ≤ B9 := (o4.2 B9 (by simp)).1
  have lB10 : wz.heap.size ≤ B10 := (o5.2 B10 (by simp)).1
  have n19 : B9 ∉ G 1 := fun h => ap14 B9 h (by simp)
  have n110 : B10 ∉ G 1 := fun h => ap15 B10 h (by simp)
  have n39 : B9 ∉ G 3 := fun h => ap34 B9 h (by simp)
  have n310 : B10 ∉ G 3 := fun h => ap35 B10 h (by simp)
  have nB : B9 ≠ B10 := fun e => ap45 B9 (by simp) (by simp [e])
  generalize G 1 = F1 at *
  generalize G 3 = F3 at *
  obtain ⟨v0, v1, v2, v3, v4, v5, G0, G1, G2, G3, G4, G5, rfl, ⟨t0, u0, rfl, _⟩, ⟨t1, u1, rfl, _⟩, ⟨t2, u2, rfl, _⟩, ⟨t3, u3, rfl, _⟩, ⟨t4, u4, rfl, _⟩, ⟨t5, u5, rfl, _⟩, _, _⟩ := id en1
  obtain ⟨v0, v1, v2, v3, v4, v5, G0, G1, G2, G3, G4, G5, rfl, ⟨r0, s0, rfl, _⟩, ⟨r1, s1', rfl, _⟩, ⟨r2, s2', rfl, _⟩, ⟨r3, s3, rfl, _⟩, ⟨r4, s4, rfl, _⟩, ⟨r5, s5, rfl, _⟩, _, _⟩ := id en3
  simp only [e1, e3, e9, e10]
  have z0 := k9.cell (j := 0) rfl
  have q0 := k10.cell (j := 0) rfl
  have z1 := k9.cell (j := 1) rfl
  have q1 := k10.cell (j := 1) rfl
  have z2 := k9.cell (j := 2) rfl
  have q2 := k10.cell (j := 2) rfl
  have z3 := k9.cell (j := 3) rfl
  have q3 := k10.cell (j := 3) rfl
  have z4 := k9.cell (j := 4) rfl
  have q4 := k10.cell (j := 4) rfl
  have z5 := k9.cell (j := 5) rfl
  have q5 := k10.cell (j := 5) rfl
  have z6 := k9.cell (j := 6) rfl
  have q6 := k10.cell (j := 6) rfl
  have k9f := k9.fz
  have k10f := k10.fz
  have lt9 := k9.lt
  have lt10 := k10.lt
  have nB' : B10 ≠ B9 := fun e => nB e.symm
  have K9 := Lib.hid k9
  have K10 := Lib.hid k10
  have EN1 := Lib.hid en1
  have EN3 := Lib.hid en3
  have HEu := Lib.hid hE
  have OW1 := Lib.hid o1
  have OW3 := Lib.hid o3
  have O4 := Lib.hid o4
  have O5 := Lib.hid o5
  have AP := Lib.hid ap13
  clear k9 k10 en1 en3 hE hφ hap eg9 eg10 o1 o3 o4 o5 ap13 ap14 ap15 ap34 ap35 ap45 d0 d2 e1 e3 e9 e10
  go_upto_region 4 with (fail)
  refine abs_world (fun W => Ext w W ∧ M.Two wz.heap.size W B9 B10 m p) ⟨(HE0.out.tr (Ext.puts (b := B10) (o := 0) lB10 [.slice r0 p.Plan.Parts.length s0, .slice r1 p.Plan.Channels.length s1', .slice r2 p.Plan.Slots.length s2', .slice r3 p.Programs.length s3, .slice r4 p.Cores.length s4, .slice r5 p.Holds.length s5, .int .i64 p.Tick] (Ext.puts (b := B9) (o := 0) lB9 [.slice t0 m.Plan.Parts.length u0, .slice t1 m.Plan.Channels.length u1, .slice t2 m.Plan.Slots.length u2, .slice t3 m.Programs.length u3, .slice t4 m.Cores.length u4, .slice t5 m.Holds.length u5, .int .i64 m.Tick] HEu.out))), F1, F3, ?_, ?_, ?_⟩ ?_
  ·exact Om.ofBk ((K9.out.puts [.slice t0 m.Plan.Parts.length u0, .slice t1 m.Plan.Channels.length u1, .slice t2 m.Plan.Slots.length u2, .slice t3 m.Programs.length u3, .slice t4 m.Cores.length u4, .slice t5 m.Holds.length u5, .int .i64 m.Tick] rfl).puts_ne (c := B10) (o := 0) (ds := [.slice r0 p.Plan.Parts.length s0, .slice r1 p.Plan.Channels.length s1', .slice r2 p.Plan.Slots.length s2', .slice r3 p.Programs.length s3, .slice r4 p.Cores.length s4, .slice r5 p.Holds.length s5, .int .i64 p.Tick]) nB) (enc_puts (c := B10) (o := 0) (ds := [.slice r0 p.Plan.Parts.length s0, .slice r1 p.Plan.Channels.length s1', .slice r2 p.Plan.Slots.length s2', .slice r3 p.Programs.length s3, .slice r4 p.Cores.length s4, .slice r5 p.Holds.length s5, .int .i64 p.Tick]) (enc_puts (c := B9) (o := 0) (ds := [.slice t0 m.Plan.Parts.length u0, .slice t1 m.Plan.Channels.length u1, .slice t2 m.Plan.Slots.length u2, .slice t3 m.Programs.length u3, .slice t4 m.Cores.length u4, .slice t5 m.Holds.length u5, .int .i64 m.Tick]) EN1.out n19) n110) ((OW1.out.puts (b := B9) (o := 0) [.slice t0 m.Plan.Parts.length u0, .slice t1 m.Plan.Channels.length u1, .slice t2 m.Plan.Slots.length u2, .slice t3 m.Programs.length u3, .slice t4 m.Cores.length u4, .slice t5 m.Holds.length u5, .int .i64 m.Tick]).puts (b := B10) (o := 0) [.slice r0 p.Plan.Parts.length s0, .slice r1 p.Plan.Channels.length s1', .slice r2 p.Plan.Slots.length s2', .slice r3 p.Programs.length s3, .slice r4 p.Cores.length s4, .slice r5 p.Holds.length s5, .int .i64 p.Tick]) lB9 n19
  ·exact Om.ofBk ((K10.out.puts_ne (c := B9) (o := 0) (ds := [.slice t0 m.Plan.Parts.length u0, .slice t1 m.Plan.Channels.length u1, .slice t2 m.Plan.Slots.length u2, .slice t3 m.Programs.length u3, .slice t4 m.Cores.length u4, .slice t5 m.Holds.length u5, .int .i64 m.Tick]) nB').puts [.slice r0 p.Plan.Parts.length s0, .slice r1 p.Plan.Channels.length s1', .slice r2 p.Plan.Slots.length s2', .slice r3 p.Programs.length s3, .slice r4 p.Cores.length s4, .slice r5 p.Holds.length s5, .int .i64 p.Tick] rfl) (enc_puts (c := B10) (o := 0) (ds := [.slice r0 p.Plan.Parts.length s0, .slice r1 p.Plan.Channels.length s1', .slice r2 p.Plan.Slots.length s2', .slice r3 p.Programs.length s3, .slice r4 p.Cores.length s4, .slice r5 p.Holds.length s5, .int .i64 p.Tick]) (enc_puts (c := B9) (o := 0) (ds := [.slice t0 m.Plan.Parts.length u0, .slice t1 m.Plan.Channels.length u1, .slice t2 m.Plan.Slots.length u2, .slice t3 m.Programs.length u3, .slice t4 m.Cores.length u4, .slice t5 m.Holds.length u5, .int .i64 m.Tick]) EN3.out n39) n310) ((OW3.out.puts (b := B9) (o := 0) [.slice t0 m.Plan.Parts.length u0, .slice t1 m.Plan.Channels.length u1, .slice t2 m.Plan.Slots.length u2, .slice t3 m.Programs.length u3, .slice t4 m.Cores.length u4, .slice t5 m.Holds.length u5, .int .i64 m.Tick]).puts (b := B10) (o := 0) [.slice r0 p.Plan.Parts.length s0, .slice r1 p.Plan.Channels.length s1', .slice r2 p.Plan.Slots.length s2', .slice r3 p.Programs.length s3, .slice r4 p.Cores.length s4, .slice r5 p.Holds.length s5, .int .i64 p.Tick]) lB10 n310
  ·intro k hk hm
   rcases List.mem_cons.1 hk with rfl | hk
   ·rcases List.mem_cons.1 hm with e | hm
    ·exact nB e
    ·exact n39 hm
   ·rcases List.mem_cons.1 hm with rfl | hm
    ·exact n110 hk
    ·exact AP.out k hk hm
  rintro W6 ⟨e6, two⟩
  have E6 := Lib.hid e6
  have TW := Lib.hid two
  have hLz : w.heap.size ≤ wz.heap.size := HE0.out.sz
  clear e6 two K9 K10 EN1 EN3 HEu OW1 OW3 O4 O5 AP k9f k10f lt9 lt10 z0 q0 x0 y0 z1 q1 x1 y1 z2 q2 x2 y2 z3 q3 x3 y3 z4 q4 x4 y4 z5 q5 x5 y5 z6 q6 x6 y6
  go_wp2
  go_loopw [11] (fun i wr => ∃ (k : Nat), k ≤ T ∧ i = .int .i64 k ∧ M.Two wz.heap.size wr B9 B10 (M.run m k) (M.run p k) ∧ Ext w wr ∧ Hid (M.fd m p N T 0 = M.fd m p N (T - k) k)) (fun i _ => T - (intOf i).toNat)
  case atStart => exact ⟨0, Nat.zero_le _, rfl, TW.out, E6.out, Lib.hid rfl⟩
  case round =>
   clear TW E6
   obtain ⟨k, hk, rfl, two, er, hfd⟩ := hrel
   have TW := Lib.hid two
   have ER := Lib.hid er
   clear two er
   obtain ⟨hv1, ht1, -, -, hc1, -⟩ := M.run_MV HV1.out k (by omega)
   obtain ⟨hv2, ht2, -, -, hc2, -⟩ := M.run_MV HV2.out k (by omega)
   have HVk1 := Lib.hid hv1
   have HVk2 := Lib.hid hv2
   have hnk1 : N < (M.run m k).Cores.length := by rw [hc1]; exact hn1
   have hnk2 : N < (M.run p k).Cores.length := by rw [hc2]; exact hn2
   have HT1 := Lib.hid ht1
   have HT2 := Lib.hid ht2
   clear hv1 hv2 hc1 hc2 ht1 ht2
   cases hq : Eqb (M.viewN (M.run m k) N) (M.viewN (M.run p k) N)
   ·have hne : ¬ M.viewN (M.run m k) N = M.viewN (M.run p k) N := fun e => by rw [Eqb.t e] at hq; cases hq
    have HFD : Hid (M.fd m p N T 0 = k) := Lib.hid (hfd.out.trans (M.fd_ne hne))
    clear hne hfd
    go_wp2_with (first
      | (go_at_call 68; refine (impl_Equal_int _ _ _ _ _ (HR1.out.ext E2.out) HR2.out).mono ?_; rintro e w4 ⟨rfl, he⟩; rw [hq]; replace ER := Lib.hid (((ER.out.tr E1.out).tr E2.out).tr he); replace TW := Lib.hid (((TW.out.ext E1.out).ext E2.out).ext he); clear he; have eqd := trivial)
      | (go_at_call 66; have _t := E1; refine (impl_view B10 (M.run p k) N _ ((TW.out.bm2).ext E1.out) HVk2.out hnk2).mono ?_; rintro e v2' ⟨a2', rfl, ho, he⟩; have HR2 := Lib.hid ho.rs; have E2 := Lib.hid he; clear ho he)
      | (go_at_call 66; refine (impl_view B9 (M.run m k) N _ TW.out.bm1 HVk1.out hnk1).mono ?_; rintro e v1' ⟨a1', rfl, ho, he⟩; have HR1 := Lib.hid ho.rs; have E1 := Lib.hid he; clear ho he))
    go_ret
    exact ⟨ret_i (by rw [hres.out, HFD.out]), ER.out⟩
   ·have heq := Eqb.iff.1 hq
    by_cases hkT : k = T
    ·have HFD : Hid (M.fd m p N T 0 = -1) := Lib.hid (hfd.out.trans (by rw [hkT, Nat.sub_self]; exact M.fd_z (hkT ▸ heq)))
     have hb : ((k : Int) == (T : Int)) = true := by simp [hkT]
     clear heq hfd hkT
     go_wp2_with (first
      | (go_at_call 68; refine (impl_Equal_int _ _ _ _ _ (HR1.out.ext E2.out) HR2.out).mono ?_; rintro e w4 ⟨rfl, he⟩; rw [hq]; replace ER := Lib.hid (((ER.out.tr E1.out).tr E2.out).tr he); replace TW := Lib.hid (((TW.out.ext E1.out).ext E2.out).ext he); clear he; have eqd := trivial)
      | (go_at_call 66; have _t := E1; refine (impl_view B10 (M.run p k) N _ ((TW.out.bm2).ext E1.out) HVk2.out hnk2).mono ?_; rintro e v2' ⟨a2', rfl, ho, he⟩; have HR2 := Lib.hid ho.rs; have E2 := Lib.hid he; clear ho he)
      | (go_at_call 66; refine (impl_view B9 (M.run m k) N _ TW.out.bm1 HVk1.out hnk1).mono ?_; rintro e v1' ⟨a1', rfl, ho, he⟩; have HR1 := Lib.hid ho.rs; have E1 := Lib.hid he; clear ho he))
     go_ret
     exact ⟨ret_i (by rw [hres.out, HFD.out]), ER.out⟩
    ·have HFD : Hid (M.fd m p N T 0 = M.fd m p N (T - (k + 1)) (k + 1)) := Lib.hid (hfd.out.trans (by rw [show T - k = (T - (k + 1)) + 1 by omega]; exact M.fd_s heq))
     have hb : ((k : Int) == (T : Int)) = false := beq_eq_false_iff_ne.2 (by omega)
     have hkt : k < T := by omega
     clear heq hfd hkT
     go_wp2_with (first
      | (go_at_call 46; have _t := tk1; go_loud (refine (M.Two.tick TW.out.swap HVk2.out (by rw [HT2.out]; omega) ER.out hLz).mono ?_; rintro e w8 ⟨rfl, two, er⟩; replace TW := Lib.hid two.swap; replace ER := Lib.hid er; clear two er))
      | (go_at_call 46; have _t := eqd; go_loud (refine (M.Two.tick TW.out HVk1.out (by rw [HT1.out]; omega) ER.out hLz).mono ?_; rintro e w7 ⟨rfl, two, er⟩; replace TW := Lib.hid two; replace ER := Lib.hid er; clear two er; have tk1 := trivial))
      | (go_at_call 68; refine (impl_Equal_int _ _ _ _ _ (HR1.out.ext E2.out) HR2.out).mono ?_; rintro e w4 ⟨rfl, he⟩; rw [hq]; replace ER := Lib.hid (((ER.out.tr E1.out).tr E2.out).tr he); replace TW := Lib.hid (((TW.out.ext E1.out).ext E2.out).ext he); clear he; have eqd := trivial)
      | (go_at_call 66; have _t := E1; refine (impl_view B10 (M.run p k) N _ ((TW.out.bm2).ext E1.out) HVk2.out hnk2).mono ?_; rintro e v2' ⟨a2', rfl, ho, he⟩; have HR2 := Lib.hid ho.rs; have E2 := Lib.hid he; clear ho he)
      | (go_at_call 66; refine (impl_view B9 (M.run m k) N _ TW.out.bm1 HVk1.out hnk1).mono ?_; rintro e v1' ⟨a1', rfl, ho, he⟩; have HR1 := Lib.hid ho.rs; have E1 := Lib.hid he; clear ho he))
     go_roundw
     case rel => exact ⟨k + 1, by omega, by go_num, TW.out, ER.out, HFD⟩
     case measure => simp [intOf]; omega
end Sk
