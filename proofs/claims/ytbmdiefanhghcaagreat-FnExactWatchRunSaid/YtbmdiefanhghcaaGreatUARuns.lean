/- Contracts of functions of the given program, each under the condition that it states. -/
import Derived.Test.YtbmdiefanhghcaaGreatChecked
import Derived.Deep.CutBlock
import Derived.Deep.CutRange
import Derived.Test.YtbmdiefanhghcaaGreatTickI
import Derived.Test.YtbmdiefanhghcaaGreatCopyM
import Derived.Test.YtbmdiefanhghcaaGreatNewC
import Derived.Test.YtbmdiefanhghcaaGreatTickT
import Derived.Test.YtbmdiefanhghcaaGreatRefc
import Derived.Test.YtbmdiefanhghcaaGreatCv
import Derived.Test.YtbmdiefanhghcaaGreatHold
import Derived.Test.YtbmdiefanhghcaaGreatFlows
namespace Sk
open Go Go.Proofs Go.RowKit
set_option maxHeartbeats 4000000
set_option maxRecDepth 100000
set_option linter.unusedVariables false
set_option linter.unusedSimpArgs false
noncomputable def M.runs (m : Machine) (t q : Int) : Bool := M.mv m && (M.inn t 0 q && decide (m.Tick + t ≤ 100000))
theorem M.runs_iff {m : Machine} {t q : Int} : M.runs m t q = true ↔ M.MV m ∧ (0 ≤ t ∧ t ≤ q) ∧ m.Tick + t ≤ 100000 := by
 unfold M.runs
 simp only [Bool.and_eq_true, M.mv_iff, M.inn_iff, decide_eq_true_eq]
theorem impl_runs (v : Value) (m : Machine) (t q : Int) (w : World) (h : Rv w v m) (hq : q ≤ 1000) :
  Calls Tryz.prog 82 #[v, .int .i64 t, .int .i64 q] w fun e w' => e = .returned (.bool (M.runs m t q)) ∧ Ext w w' := by
 have H := zh h
 obtain ⟨a0, c0, a1, c1, a2, c2, a3, c3, a4, c4, a5, c5, rfl, rt, h0, l0, h1, l1, h2, l2, h3, l3, h4, l4, h5, l5⟩ := h.openMachine
 clear h h0 h1 h2 h3 h4 h5
 go_enter Tryz.func82, Tryz.ntmps82
 go_upto_region 1 with (fail)
 refine abs_world (fun W => Ext w W ∧ Bk W w.heap.size [.slice a0 m.Plan.Parts.length c0, .slice a1 m.Plan.Channels.length c1, .slice a2 m.Plan.Slots.length c2, .slice a3 m.Programs.length c3, .slice a4 m.Cores.length c4, .slice a5 m.Holds.length c5, .int .i64 m.Tick] 46) ⟨(Ext.refl _).alloc _, Bk.new _ _ _⟩ ?_
 rintro W ⟨e1, kA⟩
 have HE0 := zh e1
 obtain ⟨d0, d1, d2, d3, d4, d5, d6⟩ := Bk.k7 kA
 have KA := zh kA
 clear e1 kA
 cases g : M.mv m
 ·go_wp2_with (go_at_call 119; refine (impl_MachineValid _ m _ (H.out.ext HE0.out)).mono ?_; rintro e w0 ⟨rfl, he⟩; rw [g]; have E := zh (HE0.out.tr he); have KAx := KA.out.ext he; have ltA := KAx.lt; obtain ⟨x0, x1, x2, x3, x4, x5, x6⟩ := Bk.k7 KAx;  clear he KAx)
  go_ret
  exact ⟨by unfold M.runs; rw [g]; rfl, E.out⟩
 have hmv := M.mv_iff.1 g
 have htk := hmv.tick
 cases g1 : M.inn t 0 q
 ·go_wp2_with (first
   | (go_at_call 119; refine (impl_MachineValid _ m _ (H.out.ext HE0.out)).mono ?_; rintro e w0 ⟨rfl, he⟩; rw [g]; have E := zh (HE0.out.tr he); have KAx := KA.out.ext he; have ltA := KAx.lt; obtain ⟨x0, x1, x2, x3, x4, x5, x6⟩ := Bk.k7 KAx;  clear he KAx)
   | (go_at_call 64; refine (impl_in _ _ _ _).mono ?_; rintro e w9 ⟨rfl, rfl⟩; rw [g1]))
  go_ret
  exact ⟨by unfold M.runs; rw [g, g1]; rfl, E.out⟩
 obtain ⟨b1, b2⟩ := M.inn_iff.1 g1
 obtain ⟨z, hz⟩ : ∃ z, m.Tick + t = z := ⟨_, rfl⟩
 have hw1 : -9223372036854775808 ≤ m.Tick + t := by omega
 have hw2 : m.Tick + t ≤ 9223372036854775807 := by omega
 have hm : Hid (M.runs m t q = decide (z ≤ 100000)) := zh (by unfold M.runs; rw [g, g1, hz]; rfl)
 go_wp2_with (first
   | (go_at_call 119; refine (impl_MachineValid _ m _ (H.out.ext HE0.out)).mono ?_; rintro e w0 ⟨rfl, he⟩; rw [g]; have E := zh (HE0.out.tr he); have KAx := KA.out.ext he; have ltA := KAx.lt; obtain ⟨x0, x1, x2, x3, x4, x5, x6⟩ := Bk.k7 KAx;  clear he KAx)
   | (go_at_call 64; refine (impl_in _ _ _ _).mono ?_; rintro e w9 ⟨rfl, rfl⟩; rw [g1]))
 go_ret
 exact ⟨by rw [hm.out]; first | done | rfl, E.out⟩
noncomputable def M.tickM (m : Machine) : Machine := if M.mv m = true ∧ ¬ m.Tick = 100000 then M.tick m else M.mz
theorem M.tickM_f1 {m : Machine} (h : M.mv m = false) : M.tickM m = M.mz := if_neg (fun k => by rw [h] at k; cases k.1)
theorem M.tickM_f2 {m : Machine} (h : m.Tick = 100000) : M.tickM m = M.mz := if_neg (fun k => k.2 h)
theorem M.tickM_t {m : Machine} (h : M.mv m = true) (ht : ¬ m.Tick = 100000) : M.tickM m = M.tick m := if_pos ⟨h, ht⟩
def Bx {α : Type} [GT α] (L : Nat) (w : World) (b : Nat) (x : α) (T : TypeId) : Prop := ∃ cs F, Bk w b cs T ∧ GT.enc w cs x F ∧ Own L w F
theorem Ext.puts {a : World} {b : Nat} (hb : a.heap.size ≤ b) (cs : List Value) : ∀ {w : World} {o : Nat}, Ext a w → Ext a (putCells w b o cs) := by
 induction cs with
 | nil => intro w o h; exact h
 | cons c cs ih => intro w o h; rw [putCells]; exact ih (h.set (p := ⟨b, o, none⟩) hb c)
theorem Own.puts {L b : Nat} {F : List Nat} (cs : List Value) : ∀ {w : World} {o : Nat}, Own L w F → Own L (putCells w b o cs) F := by
 induction cs with
 | nil => intro w o h; exact h
 | cons c cs ih => intro w o h; rw [putCells]; exact ih (h.set ⟨b, o, none⟩ c)
theorem Bx.put {α : Type} [GT α] {L M : Nat} {w : World} {b : Nat} {y : α} {T : TypeId} {cs0 cs : List Value} {F : List Nat} (hb : Bk w b cs0 T) (hl : cs0.length = GT.sz α) (hy : GT.enc w cs y F) (ho : Own M w F) (hL : L ≤ M) (hM : b < M) : Bx L (putCells w b 0 cs) b y T :=
 ⟨cs, F, hb.puts cs ((GT.len hy).trans hl.symm), enc_puts hy (fun hm => by have := (ho.2 b hm).1; omega), (ho.mono hL).puts cs⟩
theorem Ov.openE {L : Nat} {w : World} {v : Value} {m : Machine} (h : Ov L w v m) : ∃ p0 q0 p1 q1 p2 q2 p3 q3 p4 q4 p5 q5 F,
  v = .agg #[.slice p0 m.Plan.Parts.length q0, .slice p1 m.Plan.Channels.length q1, .slice p2 m.Plan.Slots.length q2, .slice p3 m.Programs.length q3, .slice p4 m.Cores.length q4, .slice p5 m.Holds.length q5, .int .i64 m.Tick] ∧
  GT.enc w [.slice p0 m.Plan.Parts.length q0, .slice p1 m.Plan.Channels.length q1, .slice p2 m.Plan.Slots.length q2, .slice p3 m.Programs.length q3, .slice p4 m.Cores.length q4, .slice p5 m.Holds.length q5, .int .i64 m.Tick] m F ∧ Own L w F := by
 obtain ⟨cs, F, rfl, h2, h3⟩ := h
 obtain ⟨v0, v1, v2, v3, v4, v5, G0, G1, G2, G3, G4, G5, rfl, ⟨t0, u0, rfl, _⟩, ⟨t1, u1, rfl, _⟩, ⟨t2, u2, rfl, _⟩, ⟨t3, u3, rfl, _⟩, ⟨t4, u4, rfl, _⟩, ⟨t5, u5, rfl, _⟩, _, _⟩ := id h2
 exact ⟨_, _, _, _, _, _, _, _, _, _, _, _, F, rfl, h2, h3⟩
set_option maxHeartbeats 2000000
theorem Os.setBox {L : Nat} {w : World} {v : Value} {xs : List Int} (h : Os L w v xs) {C : Nat} {s : Value} {T : TypeId} (hk : Bk w C [s] T) (hs : ∀ n, s ≠ .int .i64 n) (u : Value) : Os L (w.setCell ⟨C, 0, none⟩ u) v xs := by
 obtain ⟨F, ⟨a, c, rfl, hl, hc, hx⟩, ho⟩ := h
 rcases hx with ⟨rfl, rfl⟩ | ⟨hne, b, o, F', rfl, rfl, hr⟩
 ·exact ⟨[], ⟨a, c, rfl, hl, hc, .inl ⟨rfl, rfl⟩⟩, Own.nil _ _⟩
 ·have hF : ∀ (ys : List Int) (o : Nat) (F : List Nat), Row w b o ys F → F = [] := by
   intro ys
   induction ys with
   | nil => intro o F h; exact h
   | cons y ys ih =>
    intro o F h
    obtain ⟨cs, F1, F2, ⟨_, _, rfl⟩, _, rfl, h2⟩ := h
    rw [ih _ _ h2]
  have hF' := hF _ _ _ hr
  subst hF'
  have hb : C ≠ b := fun e => by
   obtain ⟨cs, F1, x, _, ⟨rfl, _, _⟩, hat, _⟩ := hr.get 0 (List.length_pos_iff.2 hne)
   have h1 := hat 0 _ rfl
   rw [← e] at h1
   simp only [Nat.zero_mul, Nat.add_zero] at h1
   unfold Bk at hk
   simp only [World.cell?, hk] at h1
   cases o with
   | zero => exact hs _ (by simpa using h1)
   | succ o => simp at h1
  exact ⟨[b], Sl.set ⟨some ⟨b, o, none⟩, c, rfl, hl, hc, .inr ⟨hne, b, o, [], rfl, rfl, hr⟩⟩ (by simpa using hb) u, ho.set _ _⟩
theorem spec_HoldSend (v : Value) (x : Hold) (k s u : Int) (w : World) (h : Rv w v x) (hv : M.hv x k s = true) (hu : 0 ≤ u ∧ u ≤ 255) :
  Calls Tryz.prog 102 #[v, .int .i64 k, .int .i64 s, .int .i64 u] w fun e w' => ∃ v', e = .returned (.tuple #[v', .int .i64 (M.send x k s u).2]) ∧ Ov w.heap.size w' v' (M.send x k s u).1 ∧ Ext w w' := by
 obtain ⟨hz, hl, hx⟩ := M.hv_iff.1 hv
 have hs4 := M.sized_pos hz
 have hlen : x.Lst.length ≤ 4 := by omega
 have H := zh h
 obtain ⟨a0, c0, rfl, hs, hl0⟩ := h.openHold
 clear h hs hx hl
 have HV := zh hv
 have htot : GT.tot x ≤ 1048576 := by show GT.tot x.Lst ≤ _; rw [tot_ints]; omega
 have hin : Hid (M.inn u 0 255 = true) := zh (M.inn_iff.2 hu)
 have hru : rng u := ⟨by omega, by omega⟩
 go_enter Tryz.func102, Tryz.ntmps102
 go_upto_region 1 with (fail)
 refine abs_world (fun W => Ext w W ∧ Bk W w.heap.size [.slice a0 x.Lst.length c0] 121 ∧ Bk W (w.heap.size + 1) [.slice none 0 0] 121) ⟨((Ext.refl _).alloc _).alloc _, (Bk.new _ _ _).ext ((Ext.refl _).alloc _), Bk.new1 _ _ _ _⟩ ?_
 rintro W0 ⟨e1, kA, kB⟩
 have d0 := kA.cell (j := 0) rfl
 have ltA := kA.lt
 have E0 := zh e1
 have KA := zh kA
 have KB := zh kB
 clear e1 kA kB
 go_upto_region 2 with (go_at_call 165; refine (spec_l1OwnHold _ x _ (H.out.ext E0.out) htot).mono ?_; rintro e w1 ⟨v1, rfl, ho, he⟩; obtain ⟨a1, c1, rfl, hr1, hl1⟩ := ho.rv.openHold; have HO1 := zh ho; have HE1 := zh he; have kA1 := KA.out.ext he; have f0 := kA1.cell (j := 0) rfl; have ff := kA1.fz; have ltA1 := kA1.lt; have KA1 := zh kA1; clear ho he kA1)
 have KP := zh (KA1.out.set 0 (.slice a1 x.Lst.length c1))
 have KR := zh ((KB.out.ext HE1.out).set_ne (p := ⟨w.heap.size, 0, none⟩) (by show w.heap.size + 1 ≠ w.heap.size; omega) (.slice a1 x.Lst.length c1))
 have EW := zh ((E0.out.tr HE1.out).set (p := ⟨w.heap.size, 0, none⟩) (Nat.le_refl _) (.slice a1 x.Lst.length c1))
 have HRv : Hid (Rv (w1.setCell ⟨w.heap.size, 0, none⟩ (.slice a1 x.Lst.length c1)) (.agg #[.slice a1 x.Lst.length c1]) x) := zh (by
  obtain ⟨cs, F, hcs, he, ho⟩ := HO1.out
  exact ⟨cs, F, hcs, GT.keep he (fun z hz => heap_set_ne (fun e => by have := (ho.2 z hz).1; have e2 : z = w.heap.size := e; omega))⟩)
 refine abs_world (fun W => Ext w W ∧ Bk W w.heap.size [.slice a1 x.Lst.length c1] 121 ∧ Bk W (w.heap.size + 1) [.slice none 0 0] 121 ∧ Rv W (.agg #[.slice a1 x.Lst.length c1]) x) ⟨EW.out, KP.out, KR.out, HRv.out⟩ ?_
 rintro W ⟨e2, kP, kR, rv⟩
 clear KA1 KP KR EW HRv HO1 HE1 f0 ff ltA1 d0 hr1
 obtain ⟨a1', c1', e1', hsl, _⟩ := rv.openHold
 obtain ⟨rfl, rfl⟩ : a1 = a1' ∧ c1 = c1' := by
  have := agg_inj e1'
  simp at this
  exact ⟨this.1, this.2⟩
 clear e1'
 have p0 := kP.cell (j := 0) rfl
 have r0 := kR.cell (j := 0) rfl
 have rf := kR.fz
 have E := zh e2
 have KP := zh kP
 have KR := zh kR
 have RV := zh rv
 have ltR := kR.lt
 have ltP := kP.lt
 have hsW : w.heap.size ≤ W.heap.size := e2.sz
 clear e2 kP kR rv E0 KA KB ltA
 have VA := zh (show True from trivial)
 by_cases hk1 : k = 1
 ·have hE := zh (M.send1 (x := x) (s := s) (m := u) hk1)
  subst hk1
  go_upto_region 5 with (first
   | (go_at_call 136; refine (spec_HoldValid _ x 1 s _ RV.out).mono ?_; rintro e w2 ⟨rfl, he⟩; rw [HV.out]; have E2 := zh (E.out.tr he); have KR2 := zh (KR.out.ext he); clear he)
   | (go_at_call 35; refine (spec_In _ _ _ _).mono ?_; rintro e w3 ⟨rfl, rfl⟩; rw [hin.out]))
  have r02 := KR2.out.cell (j := 0) rfl
  have rf2 := KR2.out.fz
  have ltR2 := KR2.out.lt
  obtain ⟨V, hV⟩ : ∃ V : Value, V = .slice (some ⟨w2.heap.size, 0, none⟩) 1 1 := ⟨_, rfl⟩
  have HO : Hid (Os w.heap.size ((w2.setCell ⟨w.heap.size + 1, 0, none⟩ V).alloc (.cells #[.int .i64 u] 3)) V [u]) := zh (by
   have h := Os.lit1 (w2.setCell ⟨w.heap.size + 1, 0, none⟩ V) u hru
   rw [show (w2.setCell ⟨w.heap.size + 1, 0, none⟩ V).heap.size = w2.heap.size by simp, ← hV] at h
   exact h.mono E2.out.sz)
  have kz := ((KR2.out.set 0 V).alc (.cells #[.int .i64 u] 3)).cell (j := 0) rfl
  have HX : Hid (Ext w ((w2.setCell ⟨w.heap.size + 1, 0, none⟩ V).alloc (.cells #[.int .i64 u] 3))) := zh ((E2.out.set (by show w.heap.size ≤ w.heap.size + 1; omega) _).alloc _)
  subst hV
  go_wp2
  refine bodyPost_ret (v := .tuple #[.agg #[.slice (some ⟨w2.heap.size, 0, none⟩) 1 1], .int .i64 0]) (by simp [results, Tryz.results102, go_sem, kz]) rfl ⟨_, by rw [hE.out], by rw [hE.out]; exact Ov.hold HO.out, HX.out⟩
 have hk1' : (k == 1) = false := by simpa using hk1
 have HK1 := zh hk1
 clear hk1
 go_upto_region 6 with (first
   | (go_at_call 136; refine (spec_HoldValid _ x k s _ RV.out).mono ?_; rintro e w2 ⟨rfl, he⟩; rw [HV.out]; have E2 := zh (E.out.tr he); have KR2 := zh (KR.out.ext he); have KP2 := zh (KP.out.ext he); have HS2 := zh (hsl.out.ext he); clear he)
   | (go_at_call 35; refine (spec_In _ _ _ _).mono ?_; rintro e w3 ⟨rfl, rfl⟩; rw [hin.out]))
 have p02 := KP2.out.cell (j := 0) rfl
 have ltP2 := KP2.out.lt
 have ltR2 := KR2.out.lt
 go_upto_region 7 with (at_builtin; refine wpl_appF (α := Int) (L := w2.heap.size) (xs := []) (ys := x.Lst) rfl _ _ 35 rfl 3 Tryz.underlying35 elInt (v := .slice (some ⟨w2.heap.size, 0, none⟩) 0 0) rfl (Oo.lit0 3 w2).oa rfl (HS2.out.ext ((Ext.refl _).alloc _)) (by simp; omega) (by simp) ?_; intro v6 w6 hO6 hg6; have O6 := zh hO6; have E6 := zh (Ext.grown ((Ext.refl w2).alloc _) hg6 (fun z hz => by simp only [Value.ownBlock, Option.some.injEq] at hz; omega)); obtain ⟨a6, n6, c6, rfl⟩ := (Oo.ofA hO6).sh; clear hO6 hg6)
 have hO6 := O6.out
 rw [List.nil_append] at hO6
 obtain ⟨_, _, e6, hl6⟩ := (Oo.ofA hO6).form
 obtain rfl : n6 = x.Lst.length := by injection e6
 clear e6
 refine abs_world (fun W6 => Ext w6 W6 ∧ Bk W6 w6.heap.size [.slice a6 x.Lst.length c6] 121) ⟨(Ext.refl _).alloc _, Bk.new _ _ _⟩ ?_
 rintro W6 ⟨e7, kC⟩
 have O7 := zh (hO6.ext e7)
 have E7 := zh ((E2.out.tr E6.out).tr e7)
 have KP7 := KP2.out.ext (E6.out.tr e7)
 have KR7 := zh (KR2.out.ext (E6.out.tr e7))
 have p07 := KP7.cell (j := 0) rfl
 have c07 := kC.cell (j := 0) rfl
 have cf7 := kC.fz
 have KC := zh kC
 have ltC := kC.lt
 have hsz6 := E6.out.sz
 have own6 := (Oo.ofA hO6).lt
 have own7 := (Oo.ofA hO6).own
 have OWN := zh (And.intro own6 own7)
 have r07 := KR7.out.cell (j := 0) rfl
 have rf7 := KR7.out.fz
 have ltR7 := KR7.out.lt
 have hsz7 := e7.sz
 generalize hC : w6.heap.size = C at *
 clear KP7 e7 kC O6 E6 hO6 own6 own7 p02 KP KR KP2 HS2
 by_cases hls : (x.Lst.length : Int) < s
 ·have hE := zh (M.send2 (m := u) HK1.out hls)
  have hls' : decide ((x.Lst.length : Int) < s) = true := decide_eq_true hls
  clear hls
  go_wp2_with (at_builtin; go_loud (refine wpl_appF (α := Int) (L := w2.heap.size) (xs := x.Lst) (ys := [u]) rfl _ _ 35 rfl 3 Tryz.underlying35 elInt (v := .slice a6 x.Lst.length c6) rfl (O7.out.ext ((Ext.refl _).alloc _)) rfl (Os.lit1 W6 u hru).rs (by simp; omega) (by simp; omega) ?_; intro v9 w9 hO9 hg9; have O9 := zh (Oo.ofA hO9); have E9 := zh (Ext.grown (E7.out.alloc _) hg9 (fun z hz => by have := OWN.out.2 z hz; omega)); have G9 := zh hg9; obtain ⟨a9, n9, c9, rfl⟩ := (Oo.ofA hO9).sh; have KC9 : Hid (Bk w9 C [.slice a6 x.Lst.length c6] 121) := zh (by have := hg9.block C (by simp; omega) (fun e => by have := OWN.out.1 C e.symm; omega); unfold Bk; rw [this]; exact (KC.out.alc _)); have KR9 : Hid (Bk w9 (w.heap.size + 1) [.slice none 0 0] 121) := zh (by have := hg9.block (w.heap.size + 1) (by simp; omega) (fun e => by have := OWN.out.2 (w.heap.size + 1) e.symm; omega); unfold Bk; rw [this]; exact (KR7.out.alc _)); have cf9 := KC9.out.fz; have c09 := KC9.out.cell (j := 0) rfl; have r09 := KR9.out.cell (j := 0) rfl; have rf9 := KR9.out.fz; clear hO9 hg9))
  have hCR : w.heap.size + 1 ≠ C := by omega
  have kz := ((KR9.out.set_ne (p := ⟨C, 0, none⟩) hCR (.slice a9 n9 c9)).set 0 (.slice a9 n9 c9)).cell (j := 0) rfl
  have HO2 := zh (((O9.out.os.setBox KC9.out (fun n h => by cases h) (.slice a9 n9 c9)).setLow (p := ⟨w.heap.size + 1, 0, none⟩) (by show w.heap.size + 1 < w2.heap.size; omega) (.slice a9 n9 c9)).mono E2.out.sz)
  have HX := zh ((E9.out.set (p := ⟨C, 0, none⟩) (by show w.heap.size ≤ C; omega) (.slice a9 n9 c9)).set (p := ⟨w.heap.size + 1, 0, none⟩) (by show w.heap.size ≤ w.heap.size + 1; omega) (.slice a9 n9 c9))
  refine bodyPost_ret (v := .tuple #[.agg #[.slice a9 n9 c9], .int .i64 0]) (by simp [results, Tryz.results102, go_sem, kz]) rfl ⟨_, by rw [hE.out], by rw [hE.out]; exact Ov.hold HO2.out, HX.out⟩
 ·have hE := zh (M.send3 (m := u) HK1.out hls)
  have hls' : decide ((x.Lst.length : Int) < s) = false := decide_eq_false hls
  clear hls
  have kz := (KR7.out.set 0 (.slice a6 x.Lst.length c6)).cell (j := 0) rfl
  have HO2 := zh ((((Oo.ofA O7.out).set (p := ⟨w.heap.size + 1, 0, none⟩) (by show w.heap.size + 1 < w2.heap.size; omega) (.slice a6 x.Lst.length c6)).os).mono (E2.out.sz))
  have HX := zh (E7.out.set (p := ⟨w.heap.size + 1, 0, none⟩) (by show w.heap.size ≤ w.heap.size + 1; omega) (.slice a6 x.Lst.length c6))
  by_cases hk3 : k = 3
  ·have hk3' : (k == 3) = true := by simpa using hk3
   have HB := zh (show M.bit (k == 3) = 1 by rw [hk3']; rfl)
   clear hk3
   go_wp2
   refine bodyPost_ret (v := .tuple #[.agg #[.slice a6 x.Lst.length c6], .int .i64 1]) (by simp [results, Tryz.results102, go_sem, kz]) rfl ⟨_, by rw [hE.out, HB.out], by rw [hE.out]; exact Ov.hold HO2.out, HX.out⟩
  ·have hk3' : (k == 3) = false := by simpa using hk3
   have HB := zh (show M.bit (k == 3) = 0 by rw [hk3']; rfl)
   clear hk3
   go_wp2
   refine bodyPost_ret (v := .tuple #[.agg #[.slice a6 x.Lst.length c6], .int .i64 0]) (by simp [results, Tryz.results102, go_sem, kz]) rfl ⟨_, by rw [hE.out, HB.out], by rw [hE.out]; exact Ov.hold HO2.out, HX.out⟩
theorem spec_HoldTake (v : Value) (x : Hold) (k s : Int) (w : World) (h : Rv w v x) (hv : M.hv x k s = true) :
  Calls Tryz.prog 103 #[v, .int .i64 k, .int .i64 s] w fun e w' => ∃ v', e = .returned (.tuple #[v', .int .i64 (M.take x k).2]) ∧ Ov w.heap.size w' v' (M.take x k).1 ∧ Ext w w' := by
 obtain ⟨hz, hl, hx⟩ := M.hv_iff.1 hv
 have hs4 := M.sized_pos hz
 have hlen : x.Lst.length ≤ 4 := by omega
 have H := zh h
 obtain ⟨a0, c0, rfl, hs, hl0⟩ := h.openHold
 clear h hs hx hl
 have HV := zh hv
 have htot : GT.tot x ≤ 1048576 := by show GT.tot x.Lst ≤ _; rw [tot_ints]; omega
 go_enter Tryz.func103, Tryz.ntmps103
 go_upto_region 1 with (fail)
 refine abs_world (fun W => Ext w W ∧ Bk W w.heap.size [.slice a0 x.Lst.length c0] 121 ∧ Bk W (w.heap.size + 1) [.slice none 0 0] 121) ⟨((Ext.refl _).alloc _).alloc _, (Bk.new _ _ _).ext ((Ext.refl _).alloc _), Bk.new1 _ _ _ _⟩ ?_
 rintro W0 ⟨e1, kA, kB⟩
 have d0 := kA.cell (j := 0) rfl
 have ltA := kA.lt
 have E0 := zh e1
 have KA := zh kA
 have KB := zh kB
 clear e1 kA kB
 go_upto_region 2 with (go_at_call 165; refine (spec_l1OwnHold _ x _ (H.out.ext E0.out) htot).mono ?_; rintro e w1 ⟨v1, rfl, ho, he⟩; obtain ⟨a1, c1, rfl, hr1, hl1⟩ := ho.rv.openHold; have HO1 := zh ho; have HE1 := zh he; have kA1 := KA.out.ext he; have f0 := kA1.cell (j := 0) rfl; have ff := kA1.fz; have ltA1 := kA1.lt; have KA1 := zh kA1; clear ho he kA1)
 have KP := zh (KA1.out.set 0 (.slice a1 x.Lst.length c1))
 have KR := zh ((KB.out.ext HE1.out).set_ne (p := ⟨w.heap.size, 0, none⟩) (by show w.heap.size + 1 ≠ w.heap.size; omega) (.slice a1 x.Lst.length c1))
 have EW := zh ((E0.out.tr HE1.out).set (p := ⟨w.heap.size, 0, none⟩) (Nat.le_refl _) (.slice a1 x.Lst.length c1))
 have HRv : Hid (Rv (w1.setCell ⟨w.heap.size, 0, none⟩ (.slice a1 x.Lst.length c1)) (.agg #[.slice a1 x.Lst.length c1]) x) := zh (by
  obtain ⟨cs, F, hcs, he, ho⟩ := HO1.out
  exact ⟨cs, F, hcs, GT.keep he (fun z hz => heap_set_ne (fun e => by have := (ho.2 z hz).1; have e2 : z = w.heap.size := e; omega))⟩)
 refine abs_world (fun W => Ext w W ∧ Bk W w.heap.size [.slice a1 x.Lst.length c1] 121 ∧ Bk W (w.heap.size + 1) [.slice none 0 0] 121 ∧ Rv W (.agg #[.slice a1 x.Lst.length c1]) x) ⟨EW.out, KP.out, KR.out, HRv.out⟩ ?_
 rintro W ⟨e2, kP, kR, rv⟩
 clear KA1 KP KR EW HRv HO1 HE1 f0 ff ltA1 d0 hr1
 obtain ⟨a1', c1', e1', hsl, _⟩ := rv.openHold
 obtain ⟨rfl, rfl⟩ : a1 = a1' ∧ c1 = c1' := by
  have := agg_inj e1'
  simp at this
  exact ⟨this.1, this.2⟩
 clear e1'
 have p0 := kP.cell (j := 0) rfl
 have r0 := kR.cell (j := 0) rfl
 have rf := kR.fz
 have E := zh e2
 have KP := zh kP
 have KR := zh kR
 have RV := zh rv
 have ltR := kR.lt
 have ltP := kP.lt
 have hsW : w.heap.size ≤ W.heap.size := e2.sz
 clear e2 kP kR rv E0 KA KB ltA
 go_upto_region 4 with (go_at_call 136; refine (spec_HoldValid _ x k s _ RV.out).mono ?_; rintro e w2 ⟨rfl, he⟩; rw [HV.out]; have E2 := zh (E.out.tr he); have KR2 := zh (KR.out.ext he); have KP2 := zh (KP.out.ext he); have HS2 := zh (hsl.out.ext he); clear he)
 have p02 := KP2.out.cell (j := 0) rfl
 have ltP2 := KP2.out.lt
 have ltR2 := KR2.out.lt
 go_upto_region 5 with (at_builtin; refine wpl_appF (α := Int) (L := w2.heap.size) (xs := []) (ys := x.Lst) rfl _ _ 35 rfl 3 Tryz.underlying35 elInt (v := .slice (some ⟨w2.heap.size, 0, none⟩) 0 0) rfl (Oo.lit0 3 w2).oa rfl (HS2.out.ext ((Ext.refl _).alloc _)) (by simp; omega) (by simp) ?_; intro v6 w6 hO6 hg6; have O6 := zh hO6; have E6 := zh (Ext.grown ((Ext.refl w2).alloc _) hg6 (fun z hz => by simp only [Value.ownBlock, Option.some.injEq] at hz; omega)); obtain ⟨a6, n6, c6, rfl⟩ := (Oo.ofA hO6).sh; clear hO6 hg6)
 have hO6 := O6.out
 rw [List.nil_append] at hO6
 obtain ⟨_, _, e6, hl6⟩ := (Oo.ofA hO6).form
 obtain rfl : n6 = x.Lst.length := by injection e6
 clear e6
 refine abs_world (fun W6 => Ext w6 W6 ∧ Bk W6 w6.heap.size [.slice a6 x.Lst.length c6] 121) ⟨(Ext.refl _).alloc _, Bk.new _ _ _⟩ ?_
 rintro W6 ⟨e7, kC⟩
 have O7 := zh (hO6.ext e7)
 have E7 := zh ((E2.out.tr E6.out).tr e7)
 have KP7 := KP2.out.ext (E6.out.tr e7)
 have KR7 := zh (KR2.out.ext (E6.out.tr e7))
 have HS7 := zh (HS2.out.ext (E6.out.tr e7))
 have p07 := KP7.cell (j := 0) rfl
 have c07 := kC.cell (j := 0) rfl
 have cf7 := kC.fz
 have KC := zh kC
 have ltC := kC.lt
 have hsz6 := E6.out.sz
 have r07 := KR7.out.cell (j := 0) rfl
 have rf7 := KR7.out.fz
 have ltR7 := KR7.out.lt
 have hsz7 := e7.sz
 have hCw : w.heap.size + 1 < w6.heap.size := by omega
 generalize hC : w6.heap.size = C at *
 clear e7 kC O6 E6 hO6 p02 KP KR KP2 HS2
 replace KP7 := zh KP7
 obtain ⟨l⟩ := x
 simp only at *
 cases l with
 | nil =>
  have hE := zh (M.take0 (x := ⟨[]⟩) (k := k) rfl)
  have kz := (KR7.out.set 0 (.slice a6 0 c6)).cell (j := 0) rfl
  have HO2 := zh ((((Oo.ofA O7.out).set (p := ⟨w.heap.size + 1, 0, none⟩) (by show w.heap.size + 1 < w2.heap.size; omega) (.slice a6 0 c6)).os).mono (E2.out.sz))
  have HX := zh (E7.out.set (p := ⟨w.heap.size + 1, 0, none⟩) (by show w.heap.size ≤ w.heap.size + 1; omega) (.slice a6 0 c6))
  simp only [List.length_nil] at *
  go_wp2
  refine bodyPost_ret (v := .tuple #[.agg #[.slice a6 0 c6], .int .i64 (-1)]) (by simp [results, Tryz.results103, go_sem, kz]) rfl ⟨_, by rw [hE.out], by rw [hE.out]; exact Ov.hold HO2.out, HX.out⟩
 | cons m rest =>
  rw [List.length_cons] at *
  have hne : ((rest.length : Int) + 1 == 0) = false := beq_eq_false_iff_ne.2 (by omega)
  obtain ⟨b, o, m', rfl, hb, hm, hc, hr⟩ := HS7.out.atInt 0 (by simp)
  obtain rfl : m = m' := by have := hm.out; simpa using this
  rw [Nat.add_zero] at hc
  by_cases hk1 : k = 1
  ·have hE := zh (M.take1 (x := ⟨m :: rest⟩) rfl hk1)
   subst hk1
   go_upto_region 9 with (fail)
   refine abs_world (fun W => Ext w W ∧ Bk W C [.slice a6 (rest.length + 1) c6] 121 ∧ Bk W w.heap.size [.slice (some ⟨b, o, none⟩) (rest.length + 1) c1] 121 ∧ Bk W (w.heap.size + 1) [.slice none 0 0] 121 ∧ W.cell? ⟨b, o, none⟩ = some (.int .i64 m) ∧ Os w2.heap.size W (.slice a6 (rest.length + 1) c6) (m :: rest)) ⟨E7.out, KC.out, KP7.out, KR7.out, hc, (Oo.ofA O7.out).os⟩ ?_
   rintro W9 ⟨x1, x2, x3, x4, x5, x6⟩
   have y1 := x2.cell (j := 0) rfl
   have y2 := x3.cell (j := 0) rfl
   have y3 := x4.cell (j := 0) rfl
   have y4 := x4.fz
   have hbR : b ≠ w.heap.size + 1 := fun e => by
    have h1 := x5
    rw [e] at h1
    have h2 := x4
    unfold Bk at h2
    simp only [World.cell?, h2] at h1
    cases o with
    | zero => simp at h1
    | succ o => simp at h1
   have hCR : C ≠ w.heap.size + 1 := by omega
   have hPR : w.heap.size ≠ w.heap.size + 1 := by omega
   have KZ := zh ((x4.set 0 (.slice a6 (rest.length + 1) c6)))
   have HO2 := zh (((x6.setLow (p := ⟨w.heap.size + 1, 0, none⟩) (by show w.heap.size + 1 < w2.heap.size; omega) (.slice a6 (rest.length + 1) c6))).mono (E2.out.sz))
   have HX := zh (x1.set (p := ⟨w.heap.size + 1, 0, none⟩) (by show w.heap.size ≤ w.heap.size + 1; omega) (.slice a6 (rest.length + 1) c6))
   have Y5 := zh x5
   clear x1 x2 x3 x4 x6 KC KP7 KR7 p07 c07 cf7 r07 rf7
   go_region_held3 (fun u => u.cell? ⟨C, 0, none⟩ = some (.slice a6 (rest.length + 1) c6) ∧ u.cell? ⟨w.heap.size, 0, none⟩ = some (.slice (some ⟨b, o, none⟩) (rest.length + 1) c1) ∧ u.cell? ⟨b, o, none⟩ = some (.int .i64 m))
    (first | exact ⟨y1, y2, Y5.out⟩ | exact ⟨(cell_setB hCR).trans y1, (cell_setB hPR).trans y2, (cell_setB hbR).trans Y5.out⟩ | go_keep) (fail)
   go_wp2
   have kz := (KZ.out.ext (Ext.refl _).drew).cell (j := 0) rfl
   refine bodyPost_ret (v := .tuple #[.agg #[.slice a6 (rest.length + 1) c6], .int .i64 m]) (by simp [results, Tryz.results103, go_sem, kz]) rfl ⟨_, by rw [hE.out], by rw [hE.out]; exact Ov.hold (HO2.out.ext (Ext.refl _).drew), HX.out.tr (Ext.refl _).drew⟩
  ·have hE := zh (M.take2 (x := ⟨m :: rest⟩) rfl hk1)
   have hk1' : (k != 1) = true := by simpa using hk1
   have HT := zh HS7.out.tailI
   have ltP7 := KP7.out.lt
   clear hk1
   by_cases hco : c1 = 1
   ·have hr0 : rest.length = 0 := by
     obtain ⟨_, _, _, e, h1, _⟩ := HS7.out
     cases e; simp at h1; omega
    obtain rfl : rest = [] := List.length_eq_zero_iff.1 hr0
    have HN : Hid (Rs W6 (.slice (some ⟨b, o, none⟩) 0 0) ([] : List Int)) := zh ⟨[], _, 0, rfl, Nat.le_refl _, Nat.zero_le _, .inl ⟨rfl, rfl⟩⟩
    subst hco
    simp only [List.length_nil, Nat.zero_add] at *
    go_upto_region 9 with (at_builtin; go_loud (refine wpl_appF (α := Int) (L := W6.heap.size) (xs := []) (ys := ([] : List Int)) rfl _ _ 35 rfl 3 Tryz.underlying35 elInt (v := .slice (some ⟨W6.heap.size, 0, none⟩) 0 0) rfl (Oo.lit0 3 W6).oa rfl (HN.out.ext ((Ext.refl _).alloc _)) (by simp) (by simp) ?_; intro v9 w9 hO9 hg9; have E09 := Ext.grown ((Ext.refl W6).alloc _) hg9 (fun z hz => by simp only [Value.ownBlock, Option.some.injEq] at hz; omega); have E9 := zh (E7.out.tr E09); have O90 := zh (Oo.ofA hO9); have KC90 := zh (KC.out.ext E09); have KP90 := zh (KP7.out.ext E09); have KR90 := zh (KR7.out.ext E09); have hc90 := zh ((cell_ext E09 hb).trans hc); have cf9 := KC90.out.fz; have c09 := KC90.out.cell (j := 0) rfl; obtain ⟨a9, n9, c9, rfl⟩ := (Oo.ofA hO9).sh; clear hO9 hg9 E09))
    have hO9 := O90.out
    rw [List.nil_append] at hO9
    have hbC : b ≠ C := fun e => by
     have h1 := hc
     rw [e] at h1
     have h2 := KC.out
     unfold Bk at h2
     simp only [World.cell?, h2] at h1
     cases o with
     | zero => simp at h1
     | succ o => simp at h1
    have hCR0 : C ≠ w.heap.size + 1 := by omega
    have hCP0 : C ≠ w.heap.size := by omega
    have KC9 := zh (KC90.out.set 0 (.slice a9 n9 c9))
    have KP9 := zh (KP90.out.set_ne (p := ⟨C, 0, none⟩) hCP0.symm (.slice a9 n9 c9))
    have KR9 := zh (KR90.out.set_ne (p := ⟨C, 0, none⟩) hCR0.symm (.slice a9 n9 c9))
    have hc9 := zh ((cell_setB (j := 0) (u := .slice a9 n9 c9) hbC).trans hc90.out)
    have O9 : Hid (Os w2.heap.size _ _ _) := zh (((hO9.os.mono (show w2.heap.size ≤ W6.heap.size by omega))).setBox KC90.out (fun n h => by cases h) (.slice a9 n9 c9))
    replace E9 := zh (E9.out.set (p := ⟨C, 0, none⟩) (by show w.heap.size ≤ C; omega) (.slice a9 n9 c9))
    clear KC90 KP90 KR90 hc90 hO9 O90 KC KP7 KR7 p07 c07 cf7 r07 rf7 c09 cf9
    refine abs_world (fun W => Ext w W ∧ Bk W C [.slice a9 n9 c9] 121 ∧ Bk W w.heap.size [.slice (some ⟨b, o, none⟩) 1 1] 121 ∧ Bk W (w.heap.size + 1) [.slice none 0 0] 121 ∧ W.cell? ⟨b, o, none⟩ = some (.int .i64 m) ∧ Os w2.heap.size W (.slice a9 n9 c9) []) ⟨E9.out, KC9.out, KP9.out, KR9.out, hc9.out, O9.out⟩ ?_
    rintro W9 ⟨x1, x2, x3, x4, x5, x6⟩
    have y1 := x2.cell (j := 0) rfl
    have y2 := x3.cell (j := 0) rfl
    have y3 := x4.cell (j := 0) rfl
    have y4 := x4.fz
    have hbR : b ≠ w.heap.size + 1 := fun e => by
     have h1 := x5
     rw [e] at h1
     have h2 := x4
     unfold Bk at h2
     simp only [World.cell?, h2] at h1
     cases o with
     | zero => simp at h1
     | succ o => simp at h1
    have hCR : C ≠ w.heap.size + 1 := by omega
    have hPR : w.heap.size ≠ w.heap.size + 1 := by omega
    have KZ := zh ((x4.set 0 (.slice a9 n9 c9)))
    have HO2 := zh (((x6.setLow (p := ⟨w.heap.size + 1, 0, none⟩) (by show w.heap.size + 1 < w2.heap.size; omega) (.slice a9 n9 c9))).mono (E2.out.sz))
    have HX := zh (x1.set (p := ⟨w.heap.size + 1, 0, none⟩) (by show w.heap.size ≤ w.heap.size + 1; omega) (.slice a9 n9 c9))
    have Y5 := zh x5
    clear x1 x2 x3 x4 x6
    go_region_held3 (fun u => u.cell? ⟨C, 0, none⟩ = some (.slice a9 n9 c9) ∧ u.cell? ⟨w.heap.size, 0, none⟩ = some (.slice (some ⟨b, o, none⟩) 1 1) ∧ u.cell? ⟨b, o, none⟩ = some (.int .i64 m))
     (first | exact ⟨y1, y2, Y5.out⟩ | exact ⟨(cell_setB hCR).trans y1, (cell_setB hPR).trans y2, (cell_setB hbR).trans Y5.out⟩ | go_keep) (fail)
    go_wp2
    have kz := (KZ.out.ext (Ext.refl _).drew).cell (j := 0) rfl
    refine bodyPost_ret (v := .tuple #[.agg #[.slice a9 n9 c9], .int .i64 m]) (by simp [results, Tryz.results103, go_sem, kz]) rfl ⟨_, by rw [hE.out], by rw [hE.out]; exact Ov.hold (HO2.out.ext (Ext.refl _).drew), HX.out.tr (Ext.refl _).drew⟩
   ·have hc1 : 1 ≤ c1 := by
     obtain ⟨_, _, _, e, h1, _⟩ := HS7.out
     cases e; simp at h1; omega
    have hcI : (rest.length : Int) + 1 ≤ (c1 : Int) := by
     obtain ⟨_, _, _, e, h1, _⟩ := HS7.out
     cases e; simp at h1; omega
    have hcN : rest.length + 1 ≤ c1 := by omega
    have hco2 : ¬ (c1 - 1 = 0) := by omega
    have hr1 : (1 : Int) ≤ (rest.length : Int) + 1 := by omega
    have hr2 : (0 : Int) ≤ (rest.length : Int) := by omega
    go_upto_region 9 with (at_builtin; go_loud (refine wpl_appF (α := Int) (L := W6.heap.size) (xs := []) (ys := rest) rfl _ _ 35 rfl 3 Tryz.underlying35 elInt (v := .slice (some ⟨W6.heap.size, 0, none⟩) 0 0) (vx := .slice (some ⟨b, o + 1, none⟩) rest.length (c1 - 1)) rfl (Oo.lit0 3 W6).oa rfl ((show Rs W6 (.slice (some ⟨b, o + 1, none⟩) rest.length (c1 - 1)) rest by simpa using HT.out).ext ((Ext.refl _).alloc _)) (by simp; omega) (by simp) ?_; intro v9 w9 hO9 hg9; have E09 := Ext.grown ((Ext.refl W6).alloc _) hg9 (fun z hz => by simp only [Value.ownBlock, Option.some.injEq] at hz; omega); have E9 := zh (E7.out.tr E09); have O90 := zh (Oo.ofA hO9); have KC90 := zh (KC.out.ext E09); have KP90 := zh (KP7.out.ext E09); have KR90 := zh (KR7.out.ext E09); have hc90 := zh ((cell_ext E09 hb).trans hc); have cf9 := KC90.out.fz; have c09 := KC90.out.cell (j := 0) rfl; obtain ⟨a9, n9, c9, rfl⟩ := (Oo.ofA hO9).sh; clear hO9 hg9 E09))
    have hO9 := O90.out
    rw [List.nil_append] at hO9
    have hbC : b ≠ C := fun e => by
     have h1 := hc
     rw [e] at h1
     have h2 := KC.out
     unfold Bk at h2
     simp only [World.cell?, h2] at h1
     cases o with
     | zero => simp at h1
     | succ o => simp at h1
    have hCR0 : C ≠ w.heap.size + 1 := by omega
    have hCP0 : C ≠ w.heap.size := by omega
    have KC9 := zh (KC90.out.set 0 (.slice a9 n9 c9))
    have KP9 := zh (KP90.out.set_ne (p := ⟨C, 0, none⟩) hCP0.symm (.slice a9 n9 c9))
    have KR9 := zh (KR90.out.set_ne (p := ⟨C, 0, none⟩) hCR0.symm (.slice a9 n9 c9))
    have hc9 := zh ((cell_setB (j := 0) (u := .slice a9 n9 c9) hbC).trans hc90.out)
    have O9 : Hid (Os w2.heap.size _ _ _) := zh (((hO9.os.mono (show w2.heap.size ≤ W6.heap.size by omega))).setBox KC90.out (fun n h => by cases h) (.slice a9 n9 c9))
    replace E9 := zh (E9.out.set (p := ⟨C, 0, none⟩) (by show w.heap.size ≤ C; omega) (.slice a9 n9 c9))
    clear KC90 KP90 KR90 hc90 hO9 O90 KC KP7 KR7 p07 c07 cf7 r07 rf7 c09 cf9
    refine abs_world (fun W => Ext w W ∧ Bk W C [.slice a9 n9 c9] 121 ∧ Bk W w.heap.size [.slice (some ⟨b, o, none⟩) (rest.length + 1) c1] 121 ∧ Bk W (w.heap.size + 1) [.slice none 0 0] 121 ∧ W.cell? ⟨b, o, none⟩ = some (.int .i64 m) ∧ Os w2.heap.size W (.slice a9 n9 c9) rest) ⟨E9.out, KC9.out, KP9.out, KR9.out, hc9.out, O9.out⟩ ?_
    rintro W9 ⟨x1, x2, x3, x4, x5, x6⟩
    have y1 := x2.cell (j := 0) rfl
    have y2 := x3.cell (j := 0) rfl
    have y3 := x4.cell (j := 0) rfl
    have y4 := x4.fz
    have hbR : b ≠ w.heap.size + 1 := fun e => by
     have h1 := x5
     rw [e] at h1
     have h2 := x4
     unfold Bk at h2
     simp only [World.cell?, h2] at h1
     cases o with
     | zero => simp at h1
     | succ o => simp at h1
    have hCR : C ≠ w.heap.size + 1 := by omega
    have hPR : w.heap.size ≠ w.heap.size + 1 := by omega
    have KZ := zh ((x4.set 0 (.slice a9 n9 c9)))
    have HO2 := zh (((x6.setLow (p := ⟨w.heap.size + 1, 0, none⟩) (by show w.heap.size + 1 < w2.heap.size; omega) (.slice a9 n9 c9))).mono (E2.out.sz))
    have HX := zh (x1.set (p := ⟨w.heap.size + 1, 0, none⟩) (by show w.heap.size ≤ w.heap.size + 1; omega) (.slice a9 n9 c9))
    have Y5 := zh x5
    clear x1 x2 x3 x4 x6
    go_region_held3 (fun u => u.cell? ⟨C, 0, none⟩ = some (.slice a9 n9 c9) ∧ u.cell? ⟨w.heap.size, 0, none⟩ = some (.slice (some ⟨b, o, none⟩) (rest.length + 1) c1) ∧ u.cell? ⟨b, o, none⟩ = some (.int .i64 m))
     (first | exact ⟨y1, y2, Y5.out⟩ | exact ⟨(cell_setB hCR).trans y1, (cell_setB hPR).trans y2, (cell_setB hbR).trans Y5.out⟩ | go_keep) (fail)
    go_wp2
    have kz := (KZ.out.ext (Ext.refl _).drew).cell (j := 0) rfl
    refine bodyPost_ret (v := .tuple #[.agg #[.slice a9 n9 c9], .int .i64 m]) (by simp [results, Tryz.results103, go_sem, kz]) rfl ⟨_, by rw [hE.out], by rw [hE.out]; exact Ov.hold (HO2.out.ext (Ext.refl _).drew), HX.out.tr (Ext.refl _).drew⟩
end Sk
