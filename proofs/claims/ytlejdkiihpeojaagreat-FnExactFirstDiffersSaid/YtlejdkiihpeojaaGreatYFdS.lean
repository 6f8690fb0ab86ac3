/- Contracts of functions of the given program, and lemmas for them: each theorem states the condition under which it holds. -/
import Derived.Test.YtlejdkiihpeojaaGreatChecked
import Derived.Deep.CutBlock
import Derived.Deep.CutRange
import Derived.Test.YtlejdkiihpeojaaGreatXRun
import Derived.Test.YtlejdkiihpeojaaGreatWTick
namespace Sk
open Go Go.Proofs Go.RowKit
set_option maxHeartbeats 4000000
set_option maxRecDepth 100000
set_option linter.unusedVariables false
set_option linter.unusedSimpArgs false
/-- A value in a box, to be read, that reaches neither the box nor the block X. -/
def Bq {α : Type} [GT α] (X : Nat) (w : World) (b : Nat) (x : α) (T : TypeId) : Prop := ∃ cs F, Bk w b cs T ∧ GT.enc w cs x F ∧ b ∉ F ∧ X ∉ F
theorem Bq.br {α : Type} [GT α] {X : Nat} {w : World} {b : Nat} {x : α} {T : TypeId} (h : Bq X w b x T) : Br w b x T := by obtain ⟨cs, F, h1, h2, h3, _⟩ := h; exact ⟨cs, F, h1, h2, h3⟩
theorem Bq.ext {α : Type} [GT α] {X : Nat} {w w' : World} {b : Nat} {x : α} {T : TypeId} (h : Bq X w b x T) (he : Ext w w') : Bq X w' b x T := by obtain ⟨cs, F, h1, h2, h3, h4⟩ := h; exact ⟨cs, F, h1.ext he, GT.ext h2 he, h3, h4⟩
theorem Bq.start {α : Type} [GT α] {X : Nat} {w W : World} {b : Nat} {cs : List Value} {x : α} {T : TypeId} (h : Rv w (.agg cs.toArray) x) (hk : Bk W b cs T) (he : Ext w W) (hb : w.heap.size ≤ b) (hX : w.heap.size ≤ X) : Bq X W b x T := by
 obtain ⟨cs', F, e, h1⟩ := h
 have : cs' = cs := by
  have := congrArg (fun v => match v with | .agg a => a.toList | _ => []) e
  simpa using this.symm
 subst this
 exact ⟨_, F, hk, GT.ext h1 he, fun hm => by have := GT.inh h1 b hm; omega, fun hm => by have := GT.inh h1 X hm; omega⟩
theorem Bq.put {α : Type} [GT α] {X M : Nat} {w : World} {b : Nat} {y : α} {T : TypeId} {cs0 cs : List Value} {F : List Nat} (hb : Bk w b cs0 T) (hl : cs0.length = GT.sz α) (hy : GT.enc w cs y F) (hF : Own M w F) (hM : b < M) (hX : X < M) : Bq X (putCells w b 0 cs) b y T :=
 have hbF : b ∉ F := fun hm => by have := (hF.2 b hm).1; omega
 ⟨cs, F, hb.puts cs ((GT.len hy).trans hl.symm), enc_puts hy hbF, hbF, fun hm => by have := (hF.2 X hm).1; omega⟩
theorem Bq.other {α : Type} [GT α] {X : Nat} {w : World} {b o : Nat} {x : α} {T : TypeId} {ds : List Value} (h : Bq X w b x T) (hb : b ≠ X) : Bq X (putCells w X o ds) b x T := by
 obtain ⟨cs, F, h1, h2, h3, h4⟩ := h
 exact ⟨cs, F, h1.puts_ne hb, enc_puts h2 h4, h3, h4⟩
theorem spec_FirstDiffers (v v2 : Value) (m p : Machine) (n t : Int) (w : World) (h : Rv w v m) (hk : Rv w v2 p) (hrt : rng t) :
  Calls Tryz.prog 25 #[v, v2, .int .i64 n, .int .i64 t] w fun e w' => e = .returned (.int .i64 (M.firstDiffers m p n t)) ∧ Ext w w' := by
 have H := Lib.hid h
 have KP := Lib.hid hk
 obtain ⟨a0, c0, a1, c1, a2, c2, a3, c3, a4, c4, a5, c5, rfl, rt, -, l0, -, l1, -, l2, -, l3, -, l4, -, l5⟩ := h.openMachine
 obtain ⟨f0, h0, f1, h1, f2, h2, f3, h3, f4, h4, f5, h5, rfl, rt', -, l0', -, l1', -, l2', -, l3', -, l4', -, l5'⟩ := hk.openMachine
 clear h hk
 go_enter Tryz.func25, Tryz.ntmps25
 go_upto_region 1 with (fail)
 refine abs_world (fun W => Ext w W ∧ Bk W w.heap.size [.slice a0 m.Plan.Parts.length c0, .slice a1 m.Plan.Channels.length c1, .slice a2 m.Plan.Slots.length c2, .slice a3 m.Programs.length c3, .slice a4 m.Cores.length c4, .slice a5 m.Holds.length c5, .int .i64 m.Tick] 42 ∧ Bk W (w.heap.size + 1) [.slice f0 p.Plan.Parts.length h0, .slice f1 p.Plan.Channels.length h1, .slice f2 p.Plan.Slots.length h2, .slice f3 p.Programs.length h3, .slice f4 p.Cores.length h4, .slice f5 p.Holds.length h5, .int .i64 p.Tick] 42) ⟨((Ext.refl _).alloc _).alloc _, (Bk.new _ _ _).ext ((Ext.refl _).alloc _), Bk.new1 _ _ _ _⟩ ?_
 rintro W ⟨e1, kA, kB⟩
 have HE0 := Lib.hid e1
 have KA := Lib.hid kA
 have KB := Lib.hid kB
 have x0 := kA.cell (j := 0) rfl
 have y0 := kB.cell (j := 0) rfl
 have x1 := kA.cell (j := 1) rfl
 have y1 := kB.cell (j := 1) rfl
 have x2 := kA.cell (j := 2) rfl
 have y2 := kB.cell (j := 2) rfl
 have x3 := kA.cell (j := 3) rfl
 have y3 := kB.cell (j := 3) rfl
 have x4 := kA.cell (j := 4) rfl
 have y4 := kB.cell (j := 4) rfl
 have x5 := kA.cell (j := 5) rfl
 have y5 := kB.cell (j := 5) rfl
 have x6 := kA.cell (j := 6) rfl
 have y6 := kB.cell (j := 6) rfl
 have ltA := kA.lt
 have ltB := kB.lt
 clear e1 kA kB
 cases g1 : M.mv m
 ·go_wp2_with (go_at_call 33; refine (spec_MachineValid _ m _ (H.out.ext HE0.out)).mono ?_; rintro e ws1 ⟨rfl, he⟩; rw [g1]; replace HE0 := Lib.hid (HE0.out.tr he); replace KA := Lib.hid (KA.out.ext he); replace KB := Lib.hid (KB.out.ext he); have x0 := KA.out.cell (j := 0) rfl; have y0 := KB.out.cell (j := 0) rfl; have x1 := KA.out.cell (j := 1) rfl; have y1 := KB.out.cell (j := 1) rfl; have x2 := KA.out.cell (j := 2) rfl; have y2 := KB.out.cell (j := 2) rfl; have x3 := KA.out.cell (j := 3) rfl; have y3 := KB.out.cell (j := 3) rfl; have x4 := KA.out.cell (j := 4) rfl; have y4 := KB.out.cell (j := 4) rfl; have x5 := KA.out.cell (j := 5) rfl; have y5 := KB.out.cell (j := 5) rfl; have x6 := KA.out.cell (j := 6) rfl; have y6 := KB.out.cell (j := 6) rfl; have ltA := KA.out.lt; have ltB := KB.out.lt; clear he; have mAd := trivial)
  go_ret
  exact ⟨ret_i (M.firstDiffers_f (.inl (by unfold M.seen; rw [g1]; rfl))).symm, HE0.out⟩
 cases g2 : M.mv p
 ·go_wp2_with (first
   | (go_at_call 33; have _t := mAd; refine (spec_MachineValid _ p _ (KP.out.ext HE0.out)).mono ?_; rintro e ws2 ⟨rfl, he⟩; rw [g2]; replace HE0 := Lib.hid (HE0.out.tr he); replace KA := Lib.hid (KA.out.ext he); replace KB := Lib.hid (KB.out.ext he); have x0 := KA.out.cell (j := 0) rfl; have y0 := KB.out.cell (j := 0) rfl; have x1 := KA.out.cell (j := 1) rfl; have y1 := KB.out.cell (j := 1) rfl; have x2 := KA.out.cell (j := 2) rfl; have y2 := KB.out.cell (j := 2) rfl; have x3 := KA.out.cell (j := 3) rfl; have y3 := KB.out.cell (j := 3) rfl; have x4 := KA.out.cell (j := 4) rfl; have y4 := KB.out.cell (j := 4) rfl; have x5 := KA.out.cell (j := 5) rfl; have y5 := KB.out.cell (j := 5) rfl; have x6 := KA.out.cell (j := 6) rfl; have y6 := KB.out.cell (j := 6) rfl; have ltA := KA.out.lt; have ltB := KB.out.lt; clear he)
   | (go_at_call 33; refine (spec_MachineValid _ m _ (H.out.ext HE0.out)).mono ?_; rintro e ws1 ⟨rfl, he⟩; rw [g1]; replace HE0 := Lib.hid (HE0.out.tr he); replace KA := Lib.hid (KA.out.ext he); replace KB := Lib.hid (KB.out.ext he); have x0 := KA.out.cell (j := 0) rfl; have y0 := KB.out.cell (j := 0) rfl; have x1 := KA.out.cell (j := 1) rfl; have y1 := KB.out.cell (j := 1) rfl; have x2 := KA.out.cell (j := 2) rfl; have y2 := KB.out.cell (j := 2) rfl; have x3 := KA.out.cell (j := 3) rfl; have y3 := KB.out.cell (j := 3) rfl; have x4 := KA.out.cell (j := 4) rfl; have y4 := KB.out.cell (j := 4) rfl; have x5 := KA.out.cell (j := 5) rfl; have y5 := KB.out.cell (j := 5) rfl; have x6 := KA.out.cell (j := 6) rfl; have y6 := KB.out.cell (j := 6) rfl; have ltA := KA.out.lt; have ltB := KB.out.lt; clear he; have mAd := trivial))
  go_ret
  exact ⟨ret_i (M.firstDiffers_f (.inr (.inl (by unfold M.seen; rw [g2]; rfl)))).symm, HE0.out⟩
 cases i1 : M.inn n 0 ((m.Cores.length : Int) - 1)
 ·go_wp2_with (first
   | (go_at_call 33; have _t := mAd; refine (spec_MachineValid _ p _ (KP.out.ext HE0.out)).mono ?_; rintro e ws2 ⟨rfl, he⟩; rw [g2]; replace HE0 := Lib.hid (HE0.out.tr he); replace KA := Lib.hid (KA.out.ext he); replace KB := Lib.hid (KB.out.ext he); have x0 := KA.out.cell (j := 0) rfl; have y0 := KB.out.cell (j := 0) rfl; have x1 := KA.out.cell (j := 1) rfl; have y1 := KB.out.cell (j := 1) rfl; have x2 := KA.out.cell (j := 2) rfl; have y2 := KB.out.cell (j := 2) rfl; have x3 := KA.out.cell (j := 3) rfl; have y3 := KB.out.cell (j := 3) rfl; have x4 := KA.out.cell (j := 4) rfl; have y4 := KB.out.cell (j := 4) rfl; have x5 := KA.out.cell (j := 5) rfl; have y5 := KB.out.cell (j := 5) rfl; have x6 := KA.out.cell (j := 6) rfl; have y6 := KB.out.cell (j := 6) rfl; have ltA := KA.out.lt; have ltB := KB.out.lt; clear he)
   | (go_at_call 33; refine (spec_MachineValid _ m _ (H.out.ext HE0.out)).mono ?_; rintro e ws1 ⟨rfl, he⟩; rw [g1]; replace HE0 := Lib.hid (HE0.out.tr he); replace KA := Lib.hid (KA.out.ext he); replace KB := Lib.hid (KB.out.ext he); have x0 := KA.out.cell (j := 0) rfl; have y0 := KB.out.cell (j := 0) rfl; have x1 := KA.out.cell (j := 1) rfl; have y1 := KB.out.cell (j := 1) rfl; have x2 := KA.out.cell (j := 2) rfl; have y2 := KB.out.cell (j := 2) rfl; have x3 := KA.out.cell (j := 3) rfl; have y3 := KB.out.cell (j := 3) rfl; have x4 := KA.out.cell (j := 4) rfl; have y4 := KB.out.cell (j := 4) rfl; have x5 := KA.out.cell (j := 5) rfl; have y5 := KB.out.cell (j := 5) rfl; have x6 := KA.out.cell (j := 6) rfl; have y6 := KB.out.cell (j := 6) rfl; have ltA := KA.out.lt; have ltB := KB.out.lt; clear he; have mAd := trivial)
   | (go_at_call 59; refine (spec_In _ _ _ _).mono ?_; rintro e w9 ⟨rfl, rfl⟩; rw [i1]))
  go_ret
  exact ⟨ret_i (M.firstDiffers_f (.inl (by unfold M.seen; rw [g1, i1]; rfl))).symm, HE0.out⟩
 cases i2 : M.inn n 0 ((p.Cores.length : Int) - 1)
 ·go_wp2_with (first
   | (go_at_call 33; have _t := mAd; refine (spec_MachineValid _ p _ (KP.out.ext HE0.out)).mono ?_; rintro e ws2 ⟨rfl, he⟩; rw [g2]; replace HE0 := Lib.hid (HE0.out.tr he); replace KA := Lib.hid (KA.out.ext he); replace KB := Lib.hid (KB.out.ext he); have x0 := KA.out.cell (j := 0) rfl; have y0 := KB.out.cell (j := 0) rfl; have x1 := KA.out.cell (j := 1) rfl; have y1 := KB.out.cell (j := 1) rfl; have x2 := KA.out.cell (j := 2) rfl; have y2 := KB.out.cell (j := 2) rfl; have x3 := KA.out.cell (j := 3) rfl; have y3 := KB.out.cell (j := 3) rfl; have x4 := KA.out.cell (j := 4) rfl; have y4 := KB.out.cell (j := 4) rfl; have x5 := KA.out.cell (j := 5) rfl; have y5 := KB.out.cell (j := 5) rfl; have x6 := KA.out.cell (j := 6) rfl; have y6 := KB.out.cell (j := 6) rfl; have ltA := KA.out.lt; have ltB := KB.out.lt; clear he)
   | (go_at_call 33; refine (spec_MachineValid _ m _ (H.out.ext HE0.out)).mono ?_; rintro e ws1 ⟨rfl, he⟩; rw [g1]; replace HE0 := Lib.hid (HE0.out.tr he); replace KA := Lib.hid (KA.out.ext he); replace KB := Lib.hid (KB.out.ext he); have x0 := KA.out.cell (j := 0) rfl; have y0 := KB.out.cell (j := 0) rfl; have x1 := KA.out.cell (j := 1) rfl; have y1 := KB.out.cell (j := 1) rfl; have x2 := KA.out.cell (j := 2) rfl; have y2 := KB.out.cell (j := 2) rfl; have x3 := KA.out.cell (j := 3) rfl; have y3 := KB.out.cell (j := 3) rfl; have x4 := KA.out.cell (j := 4) rfl; have y4 := KB.out.cell (j := 4) rfl; have x5 := KA.out.cell (j := 5) rfl; have y5 := KB.out.cell (j := 5) rfl; have x6 := KA.out.cell (j := 6) rfl; have y6 := KB.out.cell (j := 6) rfl; have ltA := KA.out.lt; have ltB := KB.out.lt; clear he; have mAd := trivial)
   | (go_at_call 59; refine (spec_In _ _ _ _).mono ?_; rintro e w9 ⟨rfl, rfl⟩; rw [i1])
   | (go_at_call 59; refine (spec_In _ _ _ _).mono ?_; rintro e w9 ⟨rfl, rfl⟩; rw [i2]))
  go_ret
  exact ⟨ret_i (M.firstDiffers_f (.inr (.inl (by unfold M.seen; rw [g2, i2]; rfl)))).symm, HE0.out⟩
 cases i3 : M.inn t 0 200
 ·go_wp2_with (first
   | (go_at_call 33; have _t := mAd; refine (spec_MachineValid _ p _ (KP.out.ext HE0.out)).mono ?_; rintro e ws2 ⟨rfl, he⟩; rw [g2]; replace HE0 := Lib.hid (HE0.out.tr he); replace KA := Lib.hid (KA.out.ext he); replace KB := Lib.hid (KB.out.ext he); have x0 := KA.out.cell (j := 0) rfl; have y0 := KB.out.cell (j := 0) rfl; have x1 := KA.out.cell (j := 1) rfl; have y1 := KB.out.cell (j := 1) rfl; have x2 := KA.out.cell (j := 2) rfl; have y2 := KB.out.cell (j := 2) rfl; have x3 := KA.out.cell (j := 3) rfl; have y3 := KB.out.cell (j := 3) rfl; have x4 := KA.out.cell (j := 4) rfl; have y4 := KB.out.cell (j := 4) rfl; have x5 := KA.out.cell (j := 5) rfl; have y5 := KB.out.cell (j := 5) rfl; have x6 := KA.out.cell (j := 6) rfl; have y6 := KB.out.cell (j := 6) rfl; have ltA := KA.out.lt; have ltB := KB.out.lt; clear he)
   | (go_at_call 33; refine (spec_MachineValid _ m _ (H.out.ext HE0.out)).mono ?_; rintro e ws1 ⟨rfl, he⟩; rw [g1]; replace HE0 := Lib.hid (HE0.out.tr he); replace KA := Lib.hid (KA.out.ext he); replace KB := Lib.hid (KB.out.ext he); have x0 := KA.out.cell (j := 0) rfl; have y0 := KB.out.cell (j := 0) rfl; have x1 := KA.out.cell (j := 1) rfl; have y1 := KB.out.cell (j := 1) rfl; have x2 := KA.out.cell (j := 2) rfl; have y2 := KB.out.cell (j := 2) rfl; have x3 := KA.out.cell (j := 3) rfl; have y3 := KB.out.cell (j := 3) rfl; have x4 := KA.out.cell (j := 4) rfl; have y4 := KB.out.cell (j := 4) rfl; have x5 := KA.out.cell (j := 5) rfl; have y5 := KB.out.cell (j := 5) rfl; have x6 := KA.out.cell (j := 6) rfl; have y6 := KB.out.cell (j := 6) rfl; have ltA := KA.out.lt; have ltB := KB.out.lt; clear he; have mAd := trivial)
   | (go_at_call 59; refine (spec_In _ _ _ _).mono ?_; rintro e w9 ⟨rfl, rfl⟩; rw [i1])
   | (go_at_call 59; refine (spec_In _ _ _ _).mono ?_; rintro e w9 ⟨rfl, rfl⟩; rw [i2])
   | (go_at_call 59; refine (spec_In _ _ _ _).mono ?_; rintro e w9 ⟨rfl, rfl⟩; rw [i3]))
  go_ret
  exact ⟨ret_i (M.firstDiffers_f (.inr (.inr (.inl (by unfold M.runs; rw [g1, i3]; rfl))))).symm, HE0.out⟩
 have hv1 := M.mv_iff.1 g1
 have hv2 := M.mv_iff.1 g2
 have tk1 := hv1.tick
 have tk2 := hv2.tick
 obtain ⟨ht0, ht4⟩ := M.inn_iff.1 i3
 obtain ⟨T, rfl⟩ : ∃ T : Nat, t = T := ⟨t.toNat, by omega⟩

 by_cases hTm : m.Tick + T ≤ 100000
 case neg =>
  have g0 : M.runs m T 200 = false := by unfold M.runs; rw [g1, i3, show decide (m.Tick + (T : Int) ≤ 100000) = false from decide_eq_false hTm]; rfl
  have hgt : decide (m.Tick + (T : Int) > 100000) = true := decide_eq_true (by omega)
  have hgt2 : decide ((100000 : Int) < m.Tick + (T : Int)) = true := decide_eq_true (by omega)
  clear hv1 hv2
  go_wp2_with (first
   | (go_at_call 33; have _t := mAd; refine (spec_MachineValid _ p _ (KP.out.ext HE0.out)).mono ?_; rintro e ws2 ⟨rfl, he⟩; rw [g2]; replace HE0 := Lib.hid (HE0.out.tr he); replace KA := Lib.hid (KA.out.ext he); replace KB := Lib.hid (KB.out.ext he); have x0 := KA.out.cell (j := 0) rfl; have y0 := KB.out.cell (j := 0) rfl; have x1 := KA.out.cell (j := 1) rfl; have y1 := KB.out.cell (j := 1) rfl; have x2 := KA.out.cell (j := 2) rfl; have y2 := KB.out.cell (j := 2) rfl; have x3 := KA.out.cell (j := 3) rfl; have y3 := KB.out.cell (j := 3) rfl; have x4 := KA.out.cell (j := 4) rfl; have y4 := KB.out.cell (j := 4) rfl; have x5 := KA.out.cell (j := 5) rfl; have y5 := KB.out.cell (j := 5) rfl; have x6 := KA.out.cell (j := 6) rfl; have y6 := KB.out.cell (j := 6) rfl; have ltA := KA.out.lt; have ltB := KB.out.lt; clear he)
   | (go_at_call 33; refine (spec_MachineValid _ m _ (H.out.ext HE0.out)).mono ?_; rintro e ws1 ⟨rfl, he⟩; rw [g1]; replace HE0 := Lib.hid (HE0.out.tr he); replace KA := Lib.hid (KA.out.ext he); replace KB := Lib.hid (KB.out.ext he); have x0 := KA.out.cell (j := 0) rfl; have y0 := KB.out.cell (j := 0) rfl; have x1 := KA.out.cell (j := 1) rfl; have y1 := KB.out.cell (j := 1) rfl; have x2 := KA.out.cell (j := 2) rfl; have y2 := KB.out.cell (j := 2) rfl; have x3 := KA.out.cell (j := 3) rfl; have y3 := KB.out.cell (j := 3) rfl; have x4 := KA.out.cell (j := 4) rfl; have y4 := KB.out.cell (j := 4) rfl; have x5 := KA.out.cell (j := 5) rfl; have y5 := KB.out.cell (j := 5) rfl; have x6 := KA.out.cell (j := 6) rfl; have y6 := KB.out.cell (j := 6) rfl; have ltA := KA.out.lt; have ltB := KB.out.lt; clear he; have mAd := trivial)
   | (go_at_call 59; refine (spec_In _ _ _ _).mono ?_; rintro e w9 ⟨rfl, rfl⟩; rw [i1])
   | (go_at_call 59; refine (spec_In _ _ _ _).mono ?_; rintro e w9 ⟨rfl, rfl⟩; rw [i2])
   | (go_at_call 59; refine (spec_In _ _ _ _).mono ?_; rintro e w9 ⟨rfl, rfl⟩; rw [i3]))
  go_ret
  exact ⟨ret_i (M.firstDiffers_f (.inr (.inr (.inl g0)))).symm, HE0.out⟩
 have gm' : decide (m.Tick + (T : Int) > 100000) = false := decide_eq_false (by omega)
 have gm'' : decide ((100000 : Int) < m.Tick + (T : Int)) = false := decide_eq_false (by omega)
 by_cases hTp : p.Tick + T ≤ 100000
 case neg =>
  have g0 : M.runs p T 200 = false := by unfold M.runs; rw [g2, i3, show decide (p.Tick + (T : Int) ≤ 100000) = false from decide_eq_false hTp]; rfl
  have hgt : decide (p.Tick + (T : Int) > 100000) = true := decide_eq_true (by omega)
  have hgt2 : decide ((100000 : Int) < p.Tick + (T : Int)) = true := decide_eq_true (by omega)
  clear hv1 hv2
  go_wp2_with (first
   | (go_at_call 33; have _t := mAd; refine (spec_MachineValid _ p _ (KP.out.ext HE0.out)).mono ?_; rintro e ws2 ⟨rfl, he⟩; rw [g2]; replace HE0 := Lib.hid (HE0.out.tr he); replace KA := Lib.hid (KA.out.ext he); replace KB := Lib.hid (KB.out.ext he); have x0 := KA.out.cell (j := 0) rfl; have y0 := KB.out.cell (j := 0) rfl; have x1 := KA.out.cell (j := 1) rfl; have y1 := KB.out.cell (j := 1) rfl; have x2 := KA.out.cell (j := 2) rfl; have y2 := KB.out.cell (j := 2) rfl; have x3 := KA.out.cell (j := 3) rfl; have y3 := KB.out.cell (j := 3) rfl; have x4 := KA.out.cell (j := 4) rfl; have y4 := KB.out.cell (j := 4) rfl; have x5 := KA.out.cell (j := 5) rfl; have y5 := KB.out.cell (j := 5) rfl; have x6 := KA.out.cell (j := 6) rfl; have y6 := KB.out.cell (j := 6) rfl; have ltA := KA.out.lt; have ltB := KB.out.lt; clear he)
   | (go_at_call 33; refine (spec_MachineValid _ m _ (H.out.ext HE0.out)).mono ?_; rintro e ws1 ⟨rfl, he⟩; rw [g1]; replace HE0 := Lib.hid (HE0.out.tr he); replace KA := Lib.hid (KA.out.ext he); replace KB := Lib.hid (KB.out.ext he); have x0 := KA.out.cell (j := 0) rfl; have y0 := KB.out.cell (j := 0) rfl; have x1 := KA.out.cell (j := 1) rfl; have y1 := KB.out.cell (j := 1) rfl; have x2 := KA.out.cell (j := 2) rfl; have y2 := KB.out.cell (j := 2) rfl; have x3 := KA.out.cell (j := 3) rfl; have y3 := KB.out.cell (j := 3) rfl; have x4 := KA.out.cell (j := 4) rfl; have y4 := KB.out.cell (j := 4) rfl; have x5 := KA.out.cell (j := 5) rfl; have y5 := KB.out.cell (j := 5) rfl; have x6 := KA.out.cell (j := 6) rfl; have y6 := KB.out.cell (j := 6) rfl; have ltA := KA.out.lt; have ltB := KB.out.lt; clear he; have mAd := trivial)
   | (go_at_call 59; refine (spec_In _ _ _ _).mono ?_; rintro e w9 ⟨rfl, rfl⟩; rw [i1])
   | (go_at_call 59; refine (spec_In _ _ _ _).mono ?_; rintro e w9 ⟨rfl, rfl⟩; rw [i2])
   | (go_at_call 59; refine (spec_In _ _ _ _).mono ?_; rintro e w9 ⟨rfl, rfl⟩; rw [i3]))
  go_ret
  exact ⟨ret_i (M.firstDiffers_f (.inr (.inr (.inr g0)))).symm, HE0.out⟩
 have gp' : decide (p.Tick + (T : Int) > 100000) = false := decide_eq_false (by omega)
 have gp'' : decide ((100000 : Int) < p.Tick + (T : Int)) = false := decide_eq_false (by omega)
 have s1 : M.seen m n = true := by unfold M.seen; rw [g1, i1]; rfl
 have s2 : M.seen p n = true := by unfold M.seen; rw [g2, i2]; rfl
 have rr1 : M.runs m T 200 = true := M.runs_iff.2 ⟨hv1, ⟨ht0, ht4⟩, hTm⟩
 have rr2 : M.runs p T 200 = true := M.runs_iff.2 ⟨hv2, ⟨ht0, ht4⟩, hTp⟩
 obtain ⟨n1, n2⟩ := M.inn_iff.1 i1
 obtain ⟨_, n3⟩ := M.inn_iff.1 i2
 go_upto_region 3 with (first
   | (go_at_call 33; have _t := mAd; refine (spec_MachineValid _ p _ (KP.out.ext HE0.out)).mono ?_; rintro e ws2 ⟨rfl, he⟩; rw [g2]; replace HE0 := Lib.hid (HE0.out.tr he); replace KA := Lib.hid (KA.out.ext he); replace KB := Lib.hid (KB.out.ext he); have x0 := KA.out.cell (j := 0) rfl; have y0 := KB.out.cell (j := 0) rfl; have x1 := KA.out.cell (j := 1) rfl; have y1 := KB.out.cell (j := 1) rfl; have x2 := KA.out.cell (j := 2) rfl; have y2 := KB.out.cell (j := 2) rfl; have x3 := KA.out.cell (j := 3) rfl; have y3 := KB.out.cell (j := 3) rfl; have x4 := KA.out.cell (j := 4) rfl; have y4 := KB.out.cell (j := 4) rfl; have x5 := KA.out.cell (j := 5) rfl; have y5 := KB.out.cell (j := 5) rfl; have x6 := KA.out.cell (j := 6) rfl; have y6 := KB.out.cell (j := 6) rfl; have ltA := KA.out.lt; have ltB := KB.out.lt; clear he)
   | (go_at_call 33; refine (spec_MachineValid _ m _ (H.out.ext HE0.out)).mono ?_; rintro e ws1 ⟨rfl, he⟩; rw [g1]; replace HE0 := Lib.hid (HE0.out.tr he); replace KA := Lib.hid (KA.out.ext he); replace KB := Lib.hid (KB.out.ext he); have x0 := KA.out.cell (j := 0) rfl; have y0 := KB.out.cell (j := 0) rfl; have x1 := KA.out.cell (j := 1) rfl; have y1 := KB.out.cell (j := 1) rfl; have x2 := KA.out.cell (j := 2) rfl; have y2 := KB.out.cell (j := 2) rfl; have x3 := KA.out.cell (j := 3) rfl; have y3 := KB.out.cell (j := 3) rfl; have x4 := KA.out.cell (j := 4) rfl; have y4 := KB.out.cell (j := 4) rfl; have x5 := KA.out.cell (j := 5) rfl; have y5 := KB.out.cell (j := 5) rfl; have x6 := KA.out.cell (j := 6) rfl; have y6 := KB.out.cell (j := 6) rfl; have ltA := KA.out.lt; have ltB := KB.out.lt; clear he; have mAd := trivial)
   | (go_at_call 59; refine (spec_In _ _ _ _).mono ?_; rintro e w9 ⟨rfl, rfl⟩; rw [i1])
   | (go_at_call 59; refine (spec_In _ _ _ _).mono ?_; rintro e w9 ⟨rfl, rfl⟩; rw [i2])
   | (go_at_call 59; refine (spec_In _ _ _ _).mono ?_; rintro e w9 ⟨rfl, rfl⟩; rw [i3]))
 obtain ⟨N, rfl⟩ : ∃ N : Nat, n = N := ⟨n.toNat, by omega⟩
 have hn1 : N < m.Cores.length := by omega
 have hn2 : N < p.Cores.length := by omega
 have HV1 := Lib.hid hv1
 have HV2 := Lib.hid hv2
 have hres := Lib.hid (M.firstDiffers_t s1 s2 rr1 rr2)
 have QA := Lib.hid (Bq.start (X := w.heap.size + 1) H.out KA.out HE0.out (Nat.le_refl _) (Nat.le_succ _))
 have QB := Lib.hid (Bq.start (X := w.heap.size) KP.out KB.out HE0.out (Nat.le_succ _) (Nat.le_refl _))
 clear KA KB H KP s1 s2 rr1 rr2 g1 g2 i1 i2 i3 hv1 hv2 n1 n2 n3 gm' gm'' gp' gp'' ltA ltB x0 y0 x1 y1 x2 y2 x3 y3 x4 y4 x5 y5 x6 y6
 go_wp2
 go_loopw [9] (fun i wr => ∃ (k : Nat), i = .int .i64 k ∧ Ext w wr ∧ ((k ≤ T ∧ Bq (w.heap.size + 1) wr w.heap.size (M.run m k) 42 ∧ Bq w.heap.size wr (w.heap.size + 1) (M.run p k) 42 ∧ Hid (M.fd m p N T 0 = M.fd m p N (T - k) k)) ∨ (k = T + 1 ∧ Hid (M.fd m p N T 0 = -1)))) (fun i _ => T + 1 - (intOf i).toNat)
 case atStart => exact ⟨0, rfl, HE0.out, .inl ⟨Nat.zero_le _, QA.out, QB.out, Lib.hid rfl⟩⟩
 case round =>
  clear QA QB HE0
  obtain ⟨k, rfl, er, ⟨hk, qa, qb, hfd⟩ | ⟨rfl, hfd⟩⟩ := hrel
  ·have ER := Lib.hid er
   have QA := Lib.hid qa
   have QB := Lib.hid qb
   have brA := qa.br
   have brB := qb.br
   obtain ⟨hv1, ht1, -, -, hc1, -⟩ := M.run_MV HV1.out k (by omega)
   obtain ⟨hv2, ht2, -, -, hc2, -⟩ := M.run_MV HV2.out k (by omega)
   have hsv : M.sameView (M.run m k) (M.run p k) N = Eqb (M.viewN (M.run m k) N) (M.viewN (M.run p k) N) := by
    unfold M.sameView
    rw [M.seen_iff.2 ⟨hv1, by omega, by rw [hc1]; omega⟩, M.seen_iff.2 ⟨hv2, by omega, by rw [hc2]; omega⟩]; rfl
   have HSA := Lib.hid (fun (h : k < T) => (show M.tickM (M.run m k) = M.run m (k + 1) from M.tickM_t (M.mv_iff.2 hv1) (by rw [ht1]; omega)))
   have HSB := Lib.hid (fun (h : k < T) => (show M.tickM (M.run p k) = M.run p (k + 1) from M.tickM_t (M.mv_iff.2 hv2) (by rw [ht2]; omega)))
   have hkT : k < T + 1 := by omega
   clear er qa qb hv1 hv2 ht1 ht2 hc1 hc2
   obtain ⟨mn, hmn⟩ : ∃ mn, M.run m (k + 1) = mn := ⟨_, rfl⟩
   obtain ⟨pn, hpn⟩ : ∃ pn, M.run p (k + 1) = pn := ⟨_, rfl⟩
   rw [hmn] at HSA
   rw [hpn] at HSB
   have HMN := Lib.hid hmn
   have HPN := Lib.hid hpn
   clear hmn hpn
   have hne : Hid (¬ M.viewN (M.run m k) N = M.viewN (M.run p k) N → M.fd m p N T 0 = k) := Lib.hid (fun h => hfd.out.trans (M.fd_ne h))
   have hez : Hid (M.viewN (M.run m k) N = M.viewN (M.run p k) N → k = T → M.fd m p N T 0 = -1) := Lib.hid (fun h e => hfd.out.trans (by subst e; rw [Nat.sub_self]; exact M.fd_z h))
   have hes : Hid (M.viewN (M.run m k) N = M.viewN (M.run p k) N → k < T → M.fd m p N T 0 = M.fd m p N (T - (k + 1)) (k + 1)) := Lib.hid (fun h e => hfd.out.trans (by rw [show T - k = (T - (k + 1)) + 1 by omega]; exact M.fd_s h))
   clear hfd
   generalize M.run m k = mk at *
   generalize M.run p k = pk at *
   obtain ⟨p0, q0, p1, q1, p2, q2, p3, q3, p4, q4, p5, q5, ka, rvA, -⟩ := brA.openM
   obtain ⟨f0, h0, f1, h1, f2, h2, f3, h3, f4, h4, f5, h5, kb, rvB, -⟩ := brB.openM
   have x0 := ka.cell (j := 0) rfl
   have y0 := kb.cell (j := 0) rfl
   have x1 := ka.cell (j := 1) rfl
   have y1 := kb.cell (j := 1) rfl
   have x2 := ka.cell (j := 2) rfl
   have y2 := kb.cell (j := 2) rfl
   have x3 := ka.cell (j := 3) rfl
   have y3 := kb.cell (j := 3) rfl
   have x4 := ka.cell (j := 4) rfl
   have y4 := kb.cell (j := 4) rfl
   have x5 := ka.cell (j := 5) rfl
   have y5 := kb.cell (j := 5) rfl
   have x6 := ka.cell (j := 6) rfl
   have y6 := kb.cell (j := 6) rfl
   have ltA := ka.lt
   have ltB := kb.lt
   have RVA0 := Lib.hid rvA.out
   have RVB0 := Lib.hid rvB.out
   have KA0 := Lib.hid ka
   have KB0 := Lib.hid kb
   clear ka kb rvA rvB brA brB
   cases hq : Eqb (M.viewN mk N) (M.viewN pk N)
   ·have HFD := Lib.hid (hne.out (fun e => by rw [Eqb.t e] at hq; cases hq))
    rw [hq] at hsv
    clear hne hez hes
    go_wp2_with (go_at_call 67; refine (spec_SameView _ _ mk pk N _ RVA0.out RVB0.out).mono ?_; rintro e w4 ⟨rfl, he⟩; rw [hsv]; replace ER := Lib.hid (ER.out.tr he); clear he)
    go_ret
    exact ⟨ret_i (by rw [hres.out, HFD.out]), ER.out⟩
   ·have heq := Lib.hid (Eqb.iff.1 hq)
    rw [hq] at hsv
    by_cases hkt : k = T
    ·have HFD := Lib.hid (hez.out heq.out hkt)
     have hlt : decide ((k : Int) < (T : Int)) = false := decide_eq_false (by omega)
     clear hne hez hes
     go_wp2_with (go_at_call 67; refine (spec_SameView _ _ mk pk N _ RVA0.out RVB0.out).mono ?_; rintro e w4 ⟨rfl, he⟩; rw [hsv]; replace ER := Lib.hid (ER.out.tr he); clear he)
     go_roundw
     case rel => exact ⟨k + 1, by go_num, ER.out, .inr ⟨by omega, HFD⟩⟩
     case measure => simp [intOf]; omega
    ·have hktl : k < T := by omega
     have HFD := Lib.hid (hes.out heq.out hktl)
     replace HSA := Lib.hid (HSA.out hktl)
     replace HSB := Lib.hid (HSB.out hktl)
     have hlt : decide ((k : Int) < (T : Int)) = true := decide_eq_true (by omega)
     clear hne hez hes heq hkt
     go_upto_region 10 with (first
      | (go_at_call 10; refine (spec_TickMachine _ mk _ RVA.out).mono ?_; rintro e w7 ⟨v7, rfl, hov, ex⟩; rw [HSA.out] at hov; obtain ⟨r0, s0, r1, s1, r2, s2, r3, s3, r4, s4, r5, s5, F7, rfl, hen7, how7⟩ := hov.openE; have EX7 := Lib.hid ex; have HEN7 := Lib.hid hen7; have HOW7 := Lib.hid how7; have cA0 := (KCA.out.ext ex).cell (j := 0) rfl; have cA1 := (KCA.out.ext ex).cell (j := 1) rfl; have cA2 := (KCA.out.ext ex).cell (j := 2) rfl; have cA3 := (KCA.out.ext ex).cell (j := 3) rfl; have cA4 := (KCA.out.ext ex).cell (j := 4) rfl; have cA5 := (KCA.out.ext ex).cell (j := 5) rfl; have cA6 := (KCA.out.ext ex).cell (j := 6) rfl; have bf7 := (KCA.out.ext ex).fz; have lt7 := (KCA.out.ext ex).lt; clear ex hen7 how7 hov)
      | (go_at_call 67; refine (spec_SameView _ _ mk pk N _ RVA0.out RVB0.out).mono ?_; rintro e w4 ⟨rfl, he⟩; rw [hsv]; replace ER := Lib.hid (ER.out.tr he); have RVA := Lib.hid (RVA0.out.ext he); have KCA := Lib.hid (KA0.out.ext he); have QB4 := Lib.hid (QB.out.ext he); have u0 := KCA.out.cell (j := 0) rfl; have u1 := KCA.out.cell (j := 1) rfl; have u2 := KCA.out.cell (j := 2) rfl; have u3 := KCA.out.cell (j := 3) rfl; have u4 := KCA.out.cell (j := 4) rfl; have u5 := KCA.out.cell (j := 5) rfl; have u6 := KCA.out.cell (j := 6) rfl; have ltu := KCA.out.lt; have ltB4 : w.heap.size + 1 < w4.heap.size := Nat.lt_of_lt_of_le ltB he.sz; clear he))
     refine abs_world (fun W => Ext w W ∧ Bq (w.heap.size + 1) W w.heap.size mn 42 ∧ Bq w.heap.size W (w.heap.size + 1) pk 42) ⟨Ext.puts (b := w.heap.size) (o := 0) (Nat.le_refl _) [.slice r0 mn.Plan.Parts.length s0, .slice r1 mn.Plan.Channels.length s1, .slice r2 mn.Plan.Slots.length s2, .slice r3 mn.Programs.length s3, .slice r4 mn.Cores.length s4, .slice r5 mn.Holds.length s5, .int .i64 mn.Tick] (ER.out.tr EX7.out), Bq.put (cs := [.slice r0 mn.Plan.Parts.length s0, .slice r1 mn.Plan.Channels.length s1, .slice r2 mn.Plan.Slots.length s2, .slice r3 mn.Programs.length s3, .slice r4 mn.Cores.length s4, .slice r5 mn.Holds.length s5, .int .i64 mn.Tick]) (KCA.out.ext EX7.out) rfl HEN7.out HOW7.out ltu ltB4, Bq.other (o := 0) (ds := [.slice r0 mn.Plan.Parts.length s0, .slice r1 mn.Plan.Channels.length s1, .slice r2 mn.Plan.Slots.length s2, .slice r3 mn.Programs.length s3, .slice r4 mn.Cores.length s4, .slice r5 mn.Holds.length s5, .int .i64 mn.Tick]) (QB4.out.ext EX7.out) (by omega)⟩ ?_
     rintro W8 ⟨e8, qa8, qb8⟩
     have E8 := Lib.hid e8
     have QA8 := Lib.hid qa8
     have brB := qb8.br
     obtain ⟨g0, j0, g1, j1, g2, j2, g3, j3, g4, j4, g5, j5, kb8, rv8, -⟩ := brB.openM
     have RVB := Lib.hid rv8.out
     have KCB := Lib.hid kb8
     have z0 := kb8.cell (j := 0) rfl
     have z1 := kb8.cell (j := 1) rfl
     have z2 := kb8.cell (j := 2) rfl
     have z3 := kb8.cell (j := 3) rfl
     have z4 := kb8.cell (j := 4) rfl
     have z5 := kb8.cell (j := 5) rfl
     have z6 := kb8.cell (j := 6) rfl
     have ltz := kb8.lt
     have ltA8 : w.heap.size < W8.heap.size := by omega
     clear e8 qa8 qb8 brB rv8 kb8 EX7 HEN7 HOW7 bf7 lt7 u0 cA0 x0 y0 u1 cA1 x1 y1 u2 cA2 x2 y2 u3 cA3 x3 y3 u4 cA4 x4 y4 u5 cA5 x5 y5 u6 cA6 x6 y6
     go_wp2_with (go_at_call 10; refine (spec_TickMachine _ pk _ RVB.out).mono ?_; rintro e w7 ⟨v7, rfl, hov, ex⟩; rw [HSB.out] at hov; obtain ⟨r0, s0, r1, s1, r2, s2, r3, s3, r4, s4, r5, s5, F7, rfl, hen7, how7⟩ := hov.openE; have EX7 := Lib.hid ex; have HEN7 := Lib.hid hen7; have HOW7 := Lib.hid how7; have cB0 := (KCB.out.ext ex).cell (j := 0) rfl; have cB1 := (KCB.out.ext ex).cell (j := 1) rfl; have cB2 := (KCB.out.ext ex).cell (j := 2) rfl; have cB3 := (KCB.out.ext ex).cell (j := 3) rfl; have cB4 := (KCB.out.ext ex).cell (j := 4) rfl; have cB5 := (KCB.out.ext ex).cell (j := 5) rfl; have cB6 := (KCB.out.ext ex).cell (j := 6) rfl; have bf7 := (KCB.out.ext ex).fz; have lt7 := (KCB.out.ext ex).lt; clear ex hen7 how7 hov)
     go_roundw
     case rel => exact ⟨k + 1, by go_num, Ext.puts (b := w.heap.size + 1) (o := 0) (Nat.le_succ _) [.slice r0 pn.Plan.Parts.length s0, .slice r1 pn.Plan.Channels.length s1, .slice r2 pn.Plan.Slots.length s2, .slice r3 pn.Programs.length s3, .slice r4 pn.Cores.length s4, .slice r5 pn.Holds.length s5, .int .i64 pn.Tick] (E8.out.tr EX7.out), .inl ⟨by omega, by rw [HMN.out]; exact Bq.other (o := 0) (ds := [.slice r0 pn.Plan.Parts.length s0, .slice r1 pn.Plan.Channels.length s1, .slice r2 pn.Plan.Slots.length s2, .slice r3 pn.Programs.length s3, .slice r4 pn.Cores.length s4, .slice r5 pn.Holds.length s5, .int .i64 pn.Tick]) (QA8.out.ext EX7.out) (by omega), by rw [HPN.out]; exact Bq.put (cs := [.slice r0 pn.Plan.Parts.length s0, .slice r1 pn.Plan.Channels.length s1, .slice r2 pn.Plan.Slots.length s2, .slice r3 pn.Programs.length s3, .slice r4 pn.Cores.length s4, .slice r5 pn.Holds.length s5, .int .i64 pn.Tick]) (KCB.out.ext EX7.out) rfl HEN7.out HOW7.out ltz ltA8, HFD⟩⟩
     case measure => simp [intOf]; omega
  ·have ER := Lib.hid er
   clear er
   have hle : decide (((T + 1 : Nat) : Int) ≤ (T : Int)) = false := decide_eq_false (by omega)
   go_wp2
   go_ret
   exact ⟨ret_i (by rw [hres.out, hfd.out]), ER.out⟩
end Sk
