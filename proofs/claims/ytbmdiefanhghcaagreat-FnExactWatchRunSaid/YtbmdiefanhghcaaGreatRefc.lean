/- Contracts of functions of the given program, each under the condition that it states. -/
import Derived.Test.YtbmdiefanhghcaaGreatChecked
import Derived.Deep.CutBlock
import Derived.Test.YtbmdiefanhghcaaGreatFlows
import Derived.Test.YtbmdiefanhghcaaGreatClone
namespace Sk
open Go Go.Proofs Go.RowKit
set_option maxHeartbeats 400000
set_option maxRecDepth 100000
set_option linter.unusedVariables false
set_option linter.unusedSimpArgs false
theorem abs_world {P : Program} {c : Code} {a : Act} {W : World} {Q : Exit → Act → World → Prop} (F : World → Prop) (hF : F W) (h : ∀ W1, F W1 → Code.wp P c Q a W1) : Code.wp P c Q a W := h W hF
theorem Oa.lit0' {α : Type} [GT α] (e : TypeId) (w : World) {B : Nat} (hB : B = w.heap.size) : Oa (α := α) e B (w.alloc (.cells #[] e (0, 0))) (.slice (some ⟨B, 0, none⟩) 0 0) [] [] := by subst hB; exact Oa.lit0 e w
theorem ext_app0 {W w' : World} {o : Obj} {B : Nat} (hg : (W.alloc o).grownBy w' (Value.ownBlock (.slice (some ⟨B, 0, none⟩) 0 0))) (hB : W.heap.size ≤ B) : Ext W w' :=
 Ext.grown ((Ext.refl W).alloc _) hg (fun k hk => by cases hk; exact hB)
theorem agg_inj {cs : List Value} {ar : Array Value} (h : (.agg ar : Value) = .agg cs.toArray) : ar = cs.toArray := by cases h; rfl
theorem spec_l1OwnHold (v : Value) (x : Hold) (w : World) (h : Rv w v x) (hn : GT.tot x ≤ 1048576) :
  Calls Tryz.prog 165 #[v] w fun e w' => ∃ v', e = .returned v' ∧ Ov w.heap.size w' v' x ∧ Ext w w' := by
 have ht : GT.tot x = GT.tot x.Lst := rfl
 obtain ⟨a0, c0, rfl, h0, l0⟩ := h.openHold
 clear h
 go_enter Tryz.func165, Tryz.ntmps165
 go_upto_region 2 with (fail)
 refine abs_world (fun W => Ext w W ∧ w.heap.size + 1 + 1 + 1 ≤ W.heap.size ∧ Bk W w.heap.size [.slice a0 x.Lst.length c0] 121 ∧ Bk W (w.heap.size + 1) [.slice none 0 0] 121 ∧ Bk W (w.heap.size + 1 + 1) [.slice a0 x.Lst.length c0] 121) ⟨((Ext.refl _).alloc _).alloc _ |>.alloc _, by simp, (Bk.new _ _ _).ext (((Ext.refl _).alloc _).alloc _), (Bk.new1 _ _ _ _).ext ((Ext.refl _).alloc _), Bk.new2 _ _ _ _ _⟩ ?_
 rintro w0 ⟨E, S, KA, KB, KC⟩
 replace E := zh E; replace KA := zh KA; replace KB := zh KB; replace KC := zh KC
 obtain ⟨M0, hM0⟩ : ∃ M0, M0 = w.heap.size + 1 + 1 + 1 := ⟨_, rfl⟩
 replace hM0 := zh hM0
 have fa0 := KA.out.cell (j := 0) rfl
 have sA : w.heap.size < w0.heap.size := by omega
 go_upto_region 3 with (at_builtin; refine wpl_appF (α := Int) rfl _ _ 35 rfl 3 Tryz.underlying35 elInt (L := w0.heap.size) (v := .slice (some ⟨w0.heap.size, 0, none⟩) 0 0) (xs := []) (ys := x.Lst) rfl (Oa.lit0' _ _ rfl) rfl (h0.out.ext (E.out.alloc _)) (by have := tot_len (xs := x.Lst); simp; omega) (by simp) ?_; intro v1 u1 hO1 hg1; have he := ext_app0 hg1 (Nat.le_refl _); have ho := hO1.osF; clear hO1 hg1; have fc0 := (KC.out.ext he).cell (j := 0) rfl; have fz := (KC.out.ext he).fz; have HO := zh ho; have HE := zh he; clear ho he; obtain ⟨p0, q0, rfl, _⟩ := HO.out.form)
 have OO0 := zh (Oe.ofS HO.out (L' := w0.heap.size) (Nat.le_refl _) HE.out.sz)
 obtain ⟨M1, hM1⟩ : ∃ M, M = u1.heap.size := ⟨_, rfl⟩
 replace OO0 := zh (OO0.out.wide (L' := M0) (M' := M1) (by have := hM0.out; omega) (by omega))
 have HSZ : Hid (M1 ≤ (u1).heap.size) := zh (by rw [hM1]; simp)
 replace hM1 : Hid (w.heap.size + 1 + 1 + 1 ≤ M1) := zh (by have := HE.out.sz; omega)
 refine abs_world (fun W => Ext w W ∧ w.heap.size + 1 + 1 + 1 ≤ W.heap.size ∧ Bk W w.heap.size [.slice a0 x.Lst.length c0] 121 ∧ Bk W (w.heap.size + 1) [.slice none 0 0] 121 ∧ Bk W (w.heap.size + 1 + 1) [.slice p0 x.Lst.length q0] 121 ∧ Hid (Oe M0 M1 W [.slice p0 x.Lst.length q0] x.Lst) ∧ M1 ≤ W.heap.size) ⟨(Ext.set (E.out.tr HE.out) (by simp <;> omega) _), Nat.le_trans S (Nat.le_trans HE.out.sz (by simp)), (Bk.set_ne (KA.out.ext HE.out) (by simp <;> omega) _), (Bk.set_ne (KB.out.ext HE.out) (by simp <;> omega) _), (Bk.set (KC.out.ext HE.out) 0 _), zh (OO0.out.hi (n := w.heap.size + 1 + 1 + 1) (Hi.set (Hi.refl _ _) (by simp <;> omega) _) (by have := hM0.out;  omega)), by have := HSZ.out; simpa using this⟩ ?_
 rintro w1 ⟨E1, S1, KA1, KB1, KC1, OX0, SM⟩
 clear sA HSZ HE HO OO0 KA KB KC E S fz  fa0 fc0
 have E := zh E1; have KA := zh KA1; have KB := zh KB1; have KC := zh KC1; have S := S1; have O0 := OX0; clear OX0; clear E1 KA1 KB1 KC1 S1
 replace hM1 : Hid (w.heap.size + 1 + 1 + 1 ≤ M1 ∧ M1 ≤ w1.heap.size) := zh ⟨hM1.out, SM⟩
 clear SM
 have fc0 := KC.out.cell (j := 0) rfl
 have fb0 := KB.out.cell (j := 0) rfl
 have fzb := KB.out.fz
 go_wp2
 refine bodyPost_ret (v := .agg #[.slice p0 x.Lst.length q0]) (by simp [results, Tryz.results165, go_sem, fb0]) rfl ⟨_, rfl, ?_, ?_⟩
 ·have hh : ∀ {W : World}, Hi (w.heap.size + 1 + 1 + 1) w1 W → Ov (w.heap.size + 1 + 1 + 1) W (.agg #[.slice p0 x.Lst.length q0]) x := fun hW =>
   (Oe.mkHold (O0.out.hi hW (by have := hM0.out;  omega))).ov.mono (by have := hM0.out; omega)
  exact (hh ((Hi.set (Hi.refl _ _) (by simp <;> omega) _))).mono (by omega)
 ·exact (Ext.set E.out (by simp <;> omega) _)
theorem spec_l1OwnCore (v : Value) (x : Core) (w : World) (h : Rv w v x) (hn : GT.tot x ≤ 1048576) :
  Calls Tryz.prog 164 #[v] w fun e w' => ∃ v', e = .returned v' ∧ Ov w.heap.size w' v' x ∧ Ext w w' := by
 have ht : GT.tot x = GT.tot x.Cells + GT.tot x.At + GT.tot x.Stopped := rfl
 obtain ⟨a0, c0, rfl, r1, h0, l0⟩ := h.openCore
 clear h
 go_enter Tryz.func164, Tryz.ntmps164
 go_upto_region 2 with (fail)
 refine abs_world (fun W => Ext w W ∧ w.heap.size + 1 + 1 + 1 ≤ W.heap.size ∧ Bk W w.heap.size [.slice a0 x.Cells.length c0, .int .i64 x.At, .bool x.Stopped] 91 ∧ Bk W (w.heap.size + 1) [.slice none 0 0, .int .i64 0, .bool false] 91 ∧ Bk W (w.heap.size + 1 + 1) [.slice a0 x.Cells.length c0, .int .i64 x.At, .bool x.Stopped] 91) ⟨((Ext.refl _).alloc _).alloc _ |>.alloc _, by simp, (Bk.new _ _ _).ext (((Ext.refl _).alloc _).alloc _), (Bk.new1 _ _ _ _).ext ((Ext.refl _).alloc _), Bk.new2 _ _ _ _ _⟩ ?_
 rintro w0 ⟨E, S, KA, KB, KC⟩
 replace E := zh E; replace KA := zh KA; replace KB := zh KB; replace KC := zh KC
 obtain ⟨M0, hM0⟩ : ∃ M0, M0 = w.heap.size + 1 + 1 + 1 := ⟨_, rfl⟩
 replace hM0 := zh hM0
 have fa0 := KA.out.cell (j := 0) rfl
 have sA : w.heap.size < w0.heap.size := by omega
 go_upto_region 3 with (at_builtin; refine wpl_appF (α := Int) rfl _ _ 35 rfl 3 Tryz.underlying35 elInt (L := w0.heap.size) (v := .slice (some ⟨w0.heap.size, 0, none⟩) 0 0) (xs := []) (ys := x.Cells) rfl (Oa.lit0' _ _ rfl) rfl (h0.out.ext (E.out.alloc _)) (by have := tot_len (xs := x.Cells); simp; omega) (by simp) ?_; intro v1 u1 hO1 hg1; have he := ext_app0 hg1 (Nat.le_refl _); have ho := hO1.osF; clear hO1 hg1; have fc0 := (KC.out.ext he).cell (j := 0) rfl; have fz := (KC.out.ext he).fz; have HO := zh ho; have HE := zh he; clear ho he; obtain ⟨p0, q0, rfl, _⟩ := HO.out.form)
 have OO0 := zh (Oe.ofS HO.out (L' := w0.heap.size) (Nat.le_refl _) HE.out.sz)
 obtain ⟨M1, hM1⟩ : ∃ M, M = u1.heap.size := ⟨_, rfl⟩
 replace OO0 := zh (OO0.out.wide (L' := M0) (M' := M1) (by have := hM0.out; omega) (by omega))
 have HSZ : Hid (M1 ≤ (u1).heap.size) := zh (by rw [hM1]; simp)
 replace hM1 : Hid (w.heap.size + 1 + 1 + 1 ≤ M1) := zh (by have := HE.out.sz; omega)
 refine abs_world (fun W => Ext w W ∧ w.heap.size + 1 + 1 + 1 ≤ W.heap.size ∧ Bk W w.heap.size [.slice a0 x.Cells.length c0, .int .i64 x.At, .bool x.Stopped] 91 ∧ Bk W (w.heap.size + 1) [.slice none 0 0, .int .i64 0, .bool false] 91 ∧ Bk W (w.heap.size + 1 + 1) [.slice p0 x.Cells.length q0, .int .i64 x.At, .bool x.Stopped] 91 ∧ Hid (Oe M0 M1 W [.slice p0 x.Cells.length q0] x.Cells) ∧ M1 ≤ W.heap.size) ⟨(Ext.set (E.out.tr HE.out) (by simp <;> omega) _), Nat.le_trans S (Nat.le_trans HE.out.sz (by simp)), (Bk.set_ne (KA.out.ext HE.out) (by simp <;> omega) _), (Bk.set_ne (KB.out.ext HE.out) (by simp <;> omega) _), (Bk.set (KC.out.ext HE.out) 0 _), zh (OO0.out.hi (n := w.heap.size + 1 + 1 + 1) (Hi.set (Hi.refl _ _) (by simp <;> omega) _) (by have := hM0.out;  omega)), by have := HSZ.out; simpa using this⟩ ?_
 rintro w1 ⟨E1, S1, KA1, KB1, KC1, OX0, SM⟩
 clear sA HSZ HE HO OO0 KA KB KC E S fz  fa0 fc0
 have E := zh E1; have KA := zh KA1; have KB := zh KB1; have KC := zh KC1; have S := S1; have O0 := OX0; clear OX0; clear E1 KA1 KB1 KC1 S1
 replace hM1 : Hid (w.heap.size + 1 + 1 + 1 ≤ M1 ∧ M1 ≤ w1.heap.size) := zh ⟨hM1.out, SM⟩
 clear SM
 obtain ⟨fc0, fc1, fc2⟩ := Bk.k3 KC.out
 obtain ⟨fb0, fb1, fb2⟩ := Bk.k3 KB.out
 have fzb := KB.out.fz
 go_wp2
 refine bodyPost_ret (v := .agg #[.slice p0 x.Cells.length q0, .int .i64 x.At, .bool x.Stopped]) (by simp [results, Tryz.results164, go_sem, fb0, fb1, fb2]) rfl ⟨_, rfl, ?_, ?_⟩
 ·have hh : ∀ {W : World}, Hi (w.heap.size + 1 + 1 + 1) w1 W → Ov (w.heap.size + 1 + 1 + 1) W (.agg #[.slice p0 x.Cells.length q0, .int .i64 x.At, .bool x.Stopped]) x := fun hW =>
   (Oe.mkCore (O0.out.hi hW (by have := hM0.out;  omega)) r1).ov.mono (by have := hM0.out; omega)
  exact (hh ((Hi.set (Hi.set (Hi.set (Hi.refl _ _) (by simp <;> omega) _) (by simp <;> omega) _) (by simp <;> omega) _))).mono (by omega)
 ·exact (Ext.set (Ext.set (Ext.set E.out (by simp <;> omega) _) (by simp <;> omega) _) (by simp <;> omega) _)
theorem spec_l1OwnPart (v : Value) (x : Part) (w : World) (h : Rv w v x) (hn : GT.tot x ≤ 1048576) :
  Calls Tryz.prog 238 #[v] w fun e w' => ∃ v', e = .returned v' ∧ Ov w.heap.size w' v' x ∧ Ext w w' := by
 have ht : GT.tot x = GT.tot x.Windows + GT.tot x.Cells := rfl
 obtain ⟨a0, c0, rfl, r1, h0, l0⟩ := h.openPart
 clear h
 go_enter Tryz.func238, Tryz.ntmps238
 go_upto_region 2 with (fail)
 refine abs_world (fun W => Ext w W ∧ w.heap.size + 1 + 1 + 1 ≤ W.heap.size ∧ Bk W w.heap.size [.slice a0 x.Windows.length c0, .int .i64 x.Cells] 147 ∧ Bk W (w.heap.size + 1) [.slice none 0 0, .int .i64 0] 147 ∧ Bk W (w.heap.size + 1 + 1) [.slice a0 x.Windows.length c0, .int .i64 x.Cells] 147) ⟨((Ext.refl _).alloc _).alloc _ |>.alloc _, by simp, (Bk.new _ _ _).ext (((Ext.refl _).alloc _).alloc _), (Bk.new1 _ _ _ _).ext ((Ext.refl _).alloc _), Bk.new2 _ _ _ _ _⟩ ?_
 rintro w0 ⟨E, S, KA, KB, KC⟩
 replace E := zh E; replace KA := zh KA; replace KB := zh KB; replace KC := zh KC
 obtain ⟨M0, hM0⟩ : ∃ M0, M0 = w.heap.size + 1 + 1 + 1 := ⟨_, rfl⟩
 replace hM0 := zh hM0
 have fa0 := KA.out.cell (j := 0) rfl
 have sA : w.heap.size < w0.heap.size := by omega
 go_upto_region 3 with (at_builtin; refine wpl_appF (α := Window) rfl _ _ 145 rfl 248 Tryz.underlying145 elWindow (L := w0.heap.size) (v := .slice (some ⟨w0.heap.size, 0, none⟩) 0 0) (xs := []) (ys := x.Windows) rfl (Oa.lit0' _ _ rfl) rfl (h0.out.ext (E.out.alloc _)) (by have := tot_len (xs := x.Windows); simp; omega) (by simp) ?_; intro v1 u1 hO1 hg1; have he := ext_app0 hg1 (Nat.le_refl _); have ho := hO1.osF; clear hO1 hg1; have fc0 := (KC.out.ext he).cell (j := 0) rfl; have fz := (KC.out.ext he).fz; have HO := zh ho; have HE := zh he; clear ho he; obtain ⟨p0, q0, rfl, _⟩ := HO.out.form)
 have OO0 := zh (Oe.ofS HO.out (L' := w0.heap.size) (Nat.le_refl _) HE.out.sz)
 obtain ⟨M1, hM1⟩ : ∃ M, M = u1.heap.size := ⟨_, rfl⟩
 replace OO0 := zh (OO0.out.wide (L' := M0) (M' := M1) (by have := hM0.out; omega) (by omega))
 have HSZ : Hid (M1 ≤ (u1).heap.size) := zh (by rw [hM1]; simp)
 replace hM1 : Hid (w.heap.size + 1 + 1 + 1 ≤ M1) := zh (by have := HE.out.sz; omega)
 refine abs_world (fun W => Ext w W ∧ w.heap.size + 1 + 1 + 1 ≤ W.heap.size ∧ Bk W w.heap.size [.slice a0 x.Windows.length c0, .int .i64 x.Cells] 147 ∧ Bk W (w.heap.size + 1) [.slice none 0 0, .int .i64 0] 147 ∧ Bk W (w.heap.size + 1 + 1) [.slice p0 x.Windows.length q0, .int .i64 x.Cells] 147 ∧ Hid (Oe M0 M1 W [.slice p0 x.Windows.length q0] x.Windows) ∧ M1 ≤ W.heap.size) ⟨(Ext.set (E.out.tr HE.out) (by simp <;> omega) _), Nat.le_trans S (Nat.le_trans HE.out.sz (by simp)), (Bk.set_ne (KA.out.ext HE.out) (by simp <;> omega) _), (Bk.set_ne (KB.out.ext HE.out) (by simp <;> omega) _), (Bk.set (KC.out.ext HE.out) 0 _), zh (OO0.out.hi (n := w.heap.size + 1 + 1 + 1) (Hi.set (Hi.refl _ _) (by simp <;> omega) _) (by have := hM0.out;  omega)), by have := HSZ.out; simpa using this⟩ ?_
 rintro w1 ⟨E1, S1, KA1, KB1, KC1, OX0, SM⟩
 clear sA HSZ HE HO OO0 KA KB KC E S fz  fa0 fc0
 have E := zh E1; have KA := zh KA1; have KB := zh KB1; have KC := zh KC1; have S := S1; have O0 := OX0; clear OX0; clear E1 KA1 KB1 KC1 S1
 replace hM1 : Hid (w.heap.size + 1 + 1 + 1 ≤ M1 ∧ M1 ≤ w1.heap.size) := zh ⟨hM1.out, SM⟩
 clear SM
 obtain ⟨fc0, fc1⟩ := Bk.k2 KC.out
 obtain ⟨fb0, fb1⟩ := Bk.k2 KB.out
 have fzb := KB.out.fz
 go_wp2
 refine bodyPost_ret (v := .agg #[.slice p0 x.Windows.length q0, .int .i64 x.Cells]) (by simp [results, Tryz.results238, go_sem, fb0, fb1]) rfl ⟨_, rfl, ?_, ?_⟩
 ·have hh : ∀ {W : World}, Hi (w.heap.size + 1 + 1 + 1) w1 W → Ov (w.heap.size + 1 + 1 + 1) W (.agg #[.slice p0 x.Windows.length q0, .int .i64 x.Cells]) x := fun hW =>
   (Oe.mkPart (O0.out.hi hW (by have := hM0.out;  omega)) r1).ov.mono (by have := hM0.out; omega)
  exact (hh ((Hi.set (Hi.set (Hi.refl _ _) (by simp <;> omega) _) (by simp <;> omega) _))).mono (by omega)
 ·exact (Ext.set (Ext.set E.out (by simp <;> omega) _) (by simp <;> omega) _)
theorem spec_l1OwnRowsOrder (v : Value) (xs : List (List Order)) (w : World) (h : Rs w v xs) (hn : GT.tot xs ≤ 1048576) :
  Calls Tryz.prog 161 #[v] w fun e w' => ∃ v', e = .returned v' ∧ Os w.heap.size w' v' xs ∧ Ext w w' := by
 obtain ⟨a, c, rfl, hl⟩ := h.form
 have hln : xs.length ≤ 1048576 := Nat.le_trans tot_len hn
 have H := zh h
 have HN := zh hn
 clear h hn
 go_enter Tryz.func161, Tryz.ntmps161
 go_wp2
 go_loopw [3, 4] (fun out i wr => ∃ (k : Nat) (ao : Option Addr) (no co : Nat), k ≤ xs.length ∧ i = .int .i64 k ∧ out = .slice ao no co ∧ Oo 119 w.heap.size wr (.slice ao no co) (xs.take k) ∧ Ext w wr) (fun _ i _ => xs.length - (intOf i).toNat)
 case atStart => exact ⟨0, _, _, _, Nat.zero_le _, rfl, rfl, Oo.lit0 _ _, (Ext.refl w).alloc _⟩
 case round =>
  obtain ⟨k, ao, no, co, hk, rfl, rfl, ho, hq⟩ := hrel
  have HO := zh ho
  have HQ := zh hq
  clear ho hq
  by_cases hlt : k < xs.length
  ·obtain ⟨b, o, x, a', c', rfl, _, hx, hc0, HR, hl'⟩ := (H.out.ext HQ.out).atList k hlt
   have hxn : x.length ≤ 1048576 := by have h1 := tot_at hx.out; have h3 := HN.out; have h4 := tot_len (xs := x); omega
   go_wp2_with (first
    | (at_builtin; refine wpl_appF (α := Order) rfl _ _ 119 rfl 142 Tryz.underlying119 elOrder (L := wr.heap.size) (v := .slice (some ⟨wr.heap.size, 0, none⟩) 0 0) (xs := []) (ys := x) rfl (Oa.lit0' _ _ (by simp)) rfl (HR.out.ext ((Ext.refl _).alloc _)) (by simp; omega) (by simp) ?_; intro v1 w1 hO1 hg1; have he1 := ext_app0 hg1 (by simp); have ho1 := hO1.osF; clear hO1 hg1; obtain ⟨p1, q1, rfl, _⟩ := ho1.form; have HE1 := zh he1; have HO1 := zh ho1; clear he1 ho1)
    | (obtain ⟨F1, hs1, hw1⟩ := HO1.out; refine wpl_appO (u := wr) (α := List Order) rfl _ _ 42 rfl 119 Tryz.underlying42 elOrderS (v := .slice ao no co) (ys := [x]) rfl HO.out (HE1.out.alloc _) HQ.out.sz rfl rfl (Row.lit1 (cs := [_]) ⟨_, rfl, hs1⟩) (by simp) (hw1.ext ((Ext.refl _).alloc _)) (by simp; omega) ?_; intro v2 w2 hO2 hg2; have he2 := Ext.grown (HE1.out.alloc _) hg2; have HO2 := zh hO2; have HE2 := zh (Ext.grown (HQ.out.tr (HE1.out.alloc _)) hg2 HO.out.own); clear hO2 hg2 he2 hs1 hw1; obtain ⟨p2, q2, rfl, _⟩ := HO2.out.form))
   go_roundw
   case rel => exact ⟨k + 1, _, _, _, by omega, by go_num, rfl, by have h := HO2.out; rw [show (xs.take k ++ [x]).length = k + 1 by simp; omega] at h; rw [take_snoc hx.out]; exact h, HE2.out⟩
   case measure => simp [intOf]; omega
  ·have HF : Hid (Os w.heap.size wr (.slice ao no co) xs) := zh (by have := HO.out.os; rwa [List.take_of_length_le (by omega)] at this)
   go_wp2
   go_ret
   exact ⟨_, rfl, HF.out, HQ.out⟩
theorem spec_l1OwnPartList (v : Value) (xs : List Part) (w : World) (h : Rs w v xs) (hn : GT.tot xs ≤ 1048576) :
  Calls Tryz.prog 211 #[v] w fun e w' => ∃ v', e = .returned v' ∧ Os w.heap.size w' v' xs ∧ Ext w w' := by
 obtain ⟨a, c, rfl, hl⟩ := h.form
 have hln : xs.length ≤ 1048576 := Nat.le_trans tot_len hn
 have H := zh h
 have HN := zh hn
 clear h hn
 go_enter Tryz.func211, Tryz.ntmps211
 go_wp2
 go_loopw [3, 4] (fun out i wr => ∃ (k : Nat) (ao : Option Addr) (no co : Nat), k ≤ xs.length ∧ i = .int .i64 k ∧ out = .slice ao no co ∧ Oo 147 w.heap.size wr (.slice ao no co) (xs.take k) ∧ Ext w wr) (fun _ i _ => xs.length - (intOf i).toNat)
 case atStart => exact ⟨0, _, _, _, Nat.zero_le _, rfl, rfl, Oo.lit0 _ _, (Ext.refl w).alloc _⟩
 case round =>
  obtain ⟨k, ao, no, co, hk, rfl, rfl, ho, hq⟩ := hrel
  have HO := zh ho
  have HQ := zh hq
  clear ho hq
  by_cases hlt : k < xs.length
  ·obtain ⟨b, o, x, a0, c0, rfl, _, hx, hc0, hc1, r1, h0, l0, hv⟩ := (H.out.ext HQ.out).atPart k hlt
   have hxn : Hid (GT.tot x ≤ 1048576) := zh (by have h1 := tot_at hx.out; have h3 := HN.out; omega)
   go_wp2_with (first
    | (go_at_call 238; refine (spec_l1OwnPart _ _ _ hv.out hxn.out).mono ?_; rintro e w1 ⟨v1, rfl, ho1, he1⟩; have HE1 := zh he1; have HO1 := zh ho1; obtain ⟨p10, q10, rfl, _, _, _⟩ := ho1.rv.openPart; clear he1 ho1)
    | (at_builtin; obtain ⟨cs1, F1, hcs, hs1, hw1⟩ := HO1.out; refine wpl_appO (u := wr) (α := Part) rfl _ _ 37 rfl 147 Tryz.underlying37 elPart (v := .slice ao no co) (ys := [x]) rfl HO.out (HE1.out.alloc _) HQ.out.sz rfl rfl (by have h := Row.lit1 (T := 147) hs1; rw [← agg_inj hcs] at h; exact h) (by simp) (hw1.ext ((Ext.refl _).alloc _)) (by simp; omega) ?_; intro v2 w2 hO2 hg2; have HO2 := zh hO2; have HE2 := zh (Ext.grown (HQ.out.tr (HE1.out.alloc _)) hg2 HO.out.own); clear hO2 hg2 hs1 hw1 hcs; obtain ⟨p2, q2, rfl, _⟩ := HO2.out.form))
   go_roundw
   case rel => exact ⟨k + 1, _, _, _, by omega, by go_num, rfl, by have h := HO2.out; rw [show (xs.take k ++ [x]).length = k + 1 by simp; omega] at h; rw [take_snoc hx.out]; exact h, HE2.out⟩
   case measure => simp [intOf]; omega
  ·have HF : Hid (Os w.heap.size wr (.slice ao no co) xs) := zh (by have := HO.out.os; rwa [List.take_of_length_le (by omega)] at this)
   go_wp2
   go_ret
   exact ⟨_, rfl, HF.out, HQ.out⟩
theorem spec_l1OwnCoreList (v : Value) (xs : List Core) (w : World) (h : Rs w v xs) (hn : GT.tot xs ≤ 1048576) :
  Calls Tryz.prog 162 #[v] w fun e w' => ∃ v', e = .returned v' ∧ Os w.heap.size w' v' xs ∧ Ext w w' := by
 obtain ⟨a, c, rfl, hl⟩ := h.form
 have hln : xs.length ≤ 1048576 := Nat.le_trans tot_len hn
 have H := zh h
 have HN := zh hn
 clear h hn
 go_enter Tryz.func162, Tryz.ntmps162
 go_wp2
 go_loopw [3, 4] (fun out i wr => ∃ (k : Nat) (ao : Option Addr) (no co : Nat), k ≤ xs.length ∧ i = .int .i64 k ∧ out = .slice ao no co ∧ Oo 91 w.heap.size wr (.slice ao no co) (xs.take k) ∧ Ext w wr) (fun _ i _ => xs.length - (intOf i).toNat)
 case atStart => exact ⟨0, _, _, _, Nat.zero_le _, rfl, rfl, Oo.lit0 _ _, (Ext.refl w).alloc _⟩
 case round =>
  obtain ⟨k, ao, no, co, hk, rfl, rfl, ho, hq⟩ := hrel
  have HO := zh ho
  have HQ := zh hq
  clear ho hq
  by_cases hlt : k < xs.length
  ·obtain ⟨b, o, x, a0, c0, rfl, _, hx, hc0, hc1, hc2, r1, h0, l0, hv⟩ := (H.out.ext HQ.out).atCore k hlt
   have hxn : Hid (GT.tot x ≤ 1048576) := zh (by have h1 := tot_at hx.out; have h3 := HN.out; omega)
   go_wp2_with (first
    | (go_at_call 164; refine (spec_l1OwnCore _ _ _ hv.out hxn.out).mono ?_; rintro e w1 ⟨v1, rfl, ho1, he1⟩; have HE1 := zh he1; have HO1 := zh ho1; obtain ⟨p10, q10, rfl, _, _, _⟩ := ho1.rv.openCore; clear he1 ho1)
    | (at_builtin; obtain ⟨cs1, F1, hcs, hs1, hw1⟩ := HO1.out; refine wpl_appO (u := wr) (α := Core) rfl _ _ 43 rfl 91 Tryz.underlying43 elCore (v := .slice ao no co) (ys := [x]) rfl HO.out (HE1.out.alloc _) HQ.out.sz rfl rfl (by have h := Row.lit1 (T := 91) hs1; rw [← agg_inj hcs] at h; exact h) (by simp) (hw1.ext ((Ext.refl _).alloc _)) (by simp; omega) ?_; intro v2 w2 hO2 hg2; have HO2 := zh hO2; have HE2 := zh (Ext.grown (HQ.out.tr (HE1.out.alloc _)) hg2 HO.out.own); clear hO2 hg2 hs1 hw1 hcs; obtain ⟨p2, q2, rfl, _⟩ := HO2.out.form))
   go_roundw
   case rel => exact ⟨k + 1, _, _, _, by omega, by go_num, rfl, by have h := HO2.out; rw [show (xs.take k ++ [x]).length = k + 1 by simp; omega] at h; rw [take_snoc hx.out]; exact h, HE2.out⟩
   case measure => simp [intOf]; omega
  ·have HF : Hid (Os w.heap.size wr (.slice ao no co) xs) := zh (by have := HO.out.os; rwa [List.take_of_length_le (by omega)] at this)
   go_wp2
   go_ret
   exact ⟨_, rfl, HF.out, HQ.out⟩
theorem spec_l1OwnHoldList (v : Value) (xs : List Hold) (w : World) (h : Rs w v xs) (hn : GT.tot xs ≤ 1048576) :
  Calls Tryz.prog 163 #[v] w fun e w' => ∃ v', e = .returned v' ∧ Os w.heap.size w' v' xs ∧ Ext w w' := by
 obtain ⟨a, c, rfl, hl⟩ := h.form
 have hln : xs.length ≤ 1048576 := Nat.le_trans tot_len hn
 have H := zh h
 have HN := zh hn
 clear h hn
 go_enter Tryz.func163, Tryz.ntmps163
 go_wp2
 go_loopw [3, 4] (fun out i wr => ∃ (k : Nat) (ao : Option Addr) (no co : Nat), k ≤ xs.length ∧ i = .int .i64 k ∧ out = .slice ao no co ∧ Oo 121 w.heap.size wr (.slice ao no co) (xs.take k) ∧ Ext w wr) (fun _ i _ => xs.length - (intOf i).toNat)
 case atStart => exact ⟨0, _, _, _, Nat.zero_le _, rfl, rfl, Oo.lit0 _ _, (Ext.refl w).alloc _⟩
 case round =>
  obtain ⟨k, ao, no, co, hk, rfl, rfl, ho, hq⟩ := hrel
  have HO := zh ho
  have HQ := zh hq
  clear ho hq
  by_cases hlt : k < xs.length
  ·obtain ⟨b, o, x, a0, c0, rfl, _, hx, hc0, h0, l0, hv⟩ := (H.out.ext HQ.out).atHold k hlt
   have hxn : Hid (GT.tot x ≤ 1048576) := zh (by have h1 := tot_at hx.out; have h3 := HN.out; omega)
   go_wp2_with (first
    | (go_at_call 165; refine (spec_l1OwnHold _ _ _ hv.out hxn.out).mono ?_; rintro e w1 ⟨v1, rfl, ho1, he1⟩; have HE1 := zh he1; have HO1 := zh ho1; obtain ⟨p10, q10, rfl, _, _⟩ := ho1.rv.openHold; clear he1 ho1)
    | (at_builtin; obtain ⟨cs1, F1, hcs, hs1, hw1⟩ := HO1.out; refine wpl_appO (u := wr) (α := Hold) rfl _ _ 44 rfl 121 Tryz.underlying44 elHold (v := .slice ao no co) (ys := [x]) rfl HO.out (HE1.out.alloc _) HQ.out.sz rfl rfl (by have h := Row.lit1 (T := 121) hs1; rw [← agg_inj hcs] at h; exact h) (by simp) (hw1.ext ((Ext.refl _).alloc _)) (by simp; omega) ?_; intro v2 w2 hO2 hg2; have HO2 := zh hO2; have HE2 := zh (Ext.grown (HQ.out.tr (HE1.out.alloc _)) hg2 HO.out.own); clear hO2 hg2 hs1 hw1 hcs; obtain ⟨p2, q2, rfl, _⟩ := HO2.out.form))
   go_roundw
   case rel => exact ⟨k + 1, _, _, _, by omega, by go_num, rfl, by have h := HO2.out; rw [show (xs.take k ++ [x]).length = k + 1 by simp; omega] at h; rw [take_snoc hx.out]; exact h, HE2.out⟩
   case measure => simp [intOf]; omega
  ·have HF : Hid (Os w.heap.size wr (.slice ao no co) xs) := zh (by have := HO.out.os; rwa [List.take_of_length_le (by omega)] at this)
   go_wp2
   go_ret
   exact ⟨_, rfl, HF.out, HQ.out⟩
theorem spec_l1OwnSetup (v : Value) (x : Setup) (w : World) (h : Rv w v x) (hn : GT.tot x ≤ 1048576) :
  Calls Tryz.prog 160 #[v] w fun e w' => ∃ v', e = .returned v' ∧ Ov w.heap.size w' v' x ∧ Ext w w' := by
 have ht : GT.tot x = GT.tot x.Parts + GT.tot x.Channels + GT.tot x.Slots := rfl
 obtain ⟨a0, c0, a1, c1, a2, c2, rfl, h0, l0, h1, l1, h2, l2⟩ := h.openSetup
 clear h
 go_enter Tryz.func160, Tryz.ntmps160
 go_upto_region 2 with (fail)
 refine abs_world (fun W => Ext w W ∧ w.heap.size + 1 + 1 + 1 ≤ W.heap.size ∧ Bk W w.heap.size [.slice a0 x.Parts.length c0, .slice a1 x.Channels.length c1, .slice a2 x.Slots.length c2] 41 ∧ Bk W (w.heap.size + 1) [.slice none 0 0, .slice none 0 0, .slice none 0 0] 41 ∧ Bk W (w.heap.size + 1 + 1) [.slice a0 x.Parts.length c0, .slice a1 x.Channels.length c1, .slice a2 x.Slots.length c2] 41) ⟨((Ext.refl _).alloc _).alloc _ |>.alloc _, by simp, (Bk.new _ _ _).ext (((Ext.refl _).alloc _).alloc _), (Bk.new1 _ _ _ _).ext ((Ext.refl _).alloc _), Bk.new2 _ _ _ _ _⟩ ?_
 rintro w0 ⟨E, S, KA, KB, KC⟩
 replace E := zh E; replace KA := zh KA; replace KB := zh KB; replace KC := zh KC
 obtain ⟨M0, hM0⟩ : ∃ M0, M0 = w.heap.size + 1 + 1 + 1 := ⟨_, rfl⟩
 replace hM0 := zh hM0
 have fa0 := KA.out.cell (j := 0) rfl
 have sA : w.heap.size < w0.heap.size := by omega
 go_upto_region 3 with (go_at_call 211; refine (spec_l1OwnPartList _ _ _ (h0.out.ext E.out) (by omega)).mono ?_; rintro e u1 ⟨v1, rfl, ho, he⟩; have fc0 := (KC.out.ext he).cell (j := 0) rfl; have fz := (KC.out.ext he).fz; have HO := zh ho; have HE := zh he; clear ho he; obtain ⟨p0, q0, rfl, _⟩ := HO.out.form)
 have OO0 := zh (Oe.ofS HO.out (L' := w0.heap.size) (Nat.le_refl _) HE.out.sz)
 obtain ⟨M1, hM1⟩ : ∃ M, M = u1.heap.size := ⟨_, rfl⟩
 replace OO0 := zh (OO0.out.wide (L' := M0) (M' := M1) (by have := hM0.out; omega) (by omega))
 have HSZ : Hid (M1 ≤ (u1).heap.size) := zh (by rw [hM1]; simp)
 replace hM1 : Hid (w.heap.size + 1 + 1 + 1 ≤ M1) := zh (by have := HE.out.sz; omega)
 refine abs_world (fun W => Ext w W ∧ w.heap.size + 1 + 1 + 1 ≤ W.heap.size ∧ Bk W w.heap.size [.slice a0 x.Parts.length c0, .slice a1 x.Channels.length c1, .slice a2 x.Slots.length c2] 41 ∧ Bk W (w.heap.size + 1) [.slice none 0 0, .slice none 0 0, .slice none 0 0] 41 ∧ Bk W (w.heap.size + 1 + 1) [.slice p0 x.Parts.length q0, .slice a1 x.Channels.length c1, .slice a2 x.Slots.length c2] 41 ∧ Hid (Oe M0 M1 W [.slice p0 x.Parts.length q0] x.Parts) ∧ M1 ≤ W.heap.size) ⟨(Ext.set (E.out.tr HE.out) (by simp <;> omega) _), Nat.le_trans S (Nat.le_trans HE.out.sz (by simp)), (Bk.set_ne (KA.out.ext HE.out) (by simp <;> omega) _), (Bk.set_ne (KB.out.ext HE.out) (by simp <;> omega) _), (Bk.set (KC.out.ext HE.out) 0 _), zh (OO0.out.hi (n := w.heap.size + 1 + 1 + 1) (Hi.set (Hi.refl _ _) (by simp <;> omega) _) (by have := hM0.out;  omega)), by have := HSZ.out; simpa using this⟩ ?_
 rintro w1 ⟨E1, S1, KA1, KB1, KC1, OX0, SM⟩
 clear sA HSZ HE HO OO0 KA KB KC E S fz  fa0 fc0
 have E := zh E1; have KA := zh KA1; have KB := zh KB1; have KC := zh KC1; have S := S1; have O0 := OX0; clear OX0; clear E1 KA1 KB1 KC1 S1
 replace hM1 : Hid (w.heap.size + 1 + 1 + 1 ≤ M1 ∧ M1 ≤ w1.heap.size) := zh ⟨hM1.out, SM⟩
 clear SM
 have fa1 := KA.out.cell (j := 1) rfl
 have sA : w.heap.size < w1.heap.size := by omega
 go_upto_region 4 with (at_builtin; refine wpl_appF (α := Channel) rfl _ _ 38 rfl 150 Tryz.underlying38 elChannel (L := w1.heap.size) (v := .slice (some ⟨w1.heap.size, 0, none⟩) 0 0) (xs := []) (ys := x.Channels) rfl (Oa.lit0' _ _ rfl) rfl (h1.out.ext (E.out.alloc _)) (by have := tot_len (xs := x.Channels); simp; omega) (by simp) ?_; intro v1 u1 hO1 hg1; have he := ext_app0 hg1 (Nat.le_refl _); have ho := hO1.osF; clear hO1 hg1; have fc1 := (KC.out.ext he).cell (j := 1) rfl; have fz := (KC.out.ext he).fz; have HO := zh ho; have HE := zh he; clear ho he; obtain ⟨p1, q1, rfl, _⟩ := HO.out.form)
 have OO1 := zh (Oe.ofS HO.out (L' := w1.heap.size) (Nat.le_refl _) HE.out.sz)
 obtain ⟨M2, hM2⟩ : ∃ M, M = u1.heap.size := ⟨_, rfl⟩
 replace OO1 := zh (OO1.out.wide (L' := M1) (M' := M2) (by have := hM1.out; omega) (by omega))
 have HSZ : Hid (M2 ≤ (u1).heap.size) := zh (by rw [hM2]; simp)
 replace hM2 : Hid (w.heap.size + 1 + 1 + 1 ≤ M2) := zh (by have := HE.out.sz; omega)
 refine abs_world (fun W => Ext w W ∧ w.heap.size + 1 + 1 + 1 ≤ W.heap.size ∧ Bk W w.heap.size [.slice a0 x.Parts.length c0, .slice a1 x.Channels.length c1, .slice a2 x.Slots.length c2] 41 ∧ Bk W (w.heap.size + 1) [.slice none 0 0, .slice none 0 0, .slice none 0 0] 41 ∧ Bk W (w.heap.size + 1 + 1) [.slice p0 x.Parts.length q0, .slice p1 x.Channels.length q1, .slice a2 x.Slots.length c2] 41 ∧ Hid (Oe M0 M1 W [.slice p0 x.Parts.length q0] x.Parts) ∧ Hid (Oe M1 M2 W [.slice p1 x.Channels.length q1] x.Channels) ∧ M2 ≤ W.heap.size) ⟨(Ext.set (E.out.tr HE.out) (by simp <;> omega) _), Nat.le_trans S (Nat.le_trans HE.out.sz (by simp)), (Bk.set_ne (KA.out.ext HE.out) (by simp <;> omega) _), (Bk.set_ne (KB.out.ext HE.out) (by simp <;> omega) _), (Bk.set (KC.out.ext HE.out) 1 _), zh ((O0.out.ext HE.out).hi (n := w.heap.size + 1 + 1 + 1) (Hi.set (Hi.refl _ _) (by simp <;> omega) _) (by have := hM0.out;  omega)), zh (OO1.out.hi (n := w.heap.size + 1 + 1 + 1) (Hi.set (Hi.refl _ _) (by simp <;> omega) _) (by have := hM0.out; have := hM1.out;  omega)), by have := HSZ.out; simpa using this⟩ ?_
 rintro w2 ⟨E1, S1, KA1, KB1, KC1, OX0, OX1, SM⟩
 clear sA HSZ HE HO OO1 KA KB KC E S fz O0 fa1 fc1
 have E := zh E1; have KA := zh KA1; have KB := zh KB1; have KC := zh KC1; have S := S1; have O0 := OX0; clear OX0; have O1 := OX1; clear OX1; clear E1 KA1 KB1 KC1 S1
 replace hM2 : Hid (w.heap.size + 1 + 1 + 1 ≤ M2 ∧ M2 ≤ w2.heap.size) := zh ⟨hM2.out, SM⟩
 clear SM
 have fa2 := KA.out.cell (j := 2) rfl
 have sA : w.heap.size < w2.heap.size := by omega
 go_upto_region 5 with (at_builtin; refine wpl_appF (α := Slot) rfl _ _ 39 rfl 160 Tryz.underlying39 elSlot (L := w2.heap.size) (v := .slice (some ⟨w2.heap.size, 0, none⟩) 0 0) (xs := []) (ys := x.Slots) rfl (Oa.lit0' _ _ rfl) rfl (h2.out.ext (E.out.alloc _)) (by have := tot_len (xs := x.Slots); simp; omega) (by simp) ?_; intro v1 u1 hO1 hg1; have he := ext_app0 hg1 (Nat.le_refl _); have ho := hO1.osF; clear hO1 hg1; have fc2 := (KC.out.ext he).cell (j := 2) rfl; have fz := (KC.out.ext he).fz; have HO := zh ho; have HE := zh he; clear ho he; obtain ⟨p2, q2, rfl, _⟩ := HO.out.form)
 have OO2 := zh (Oe.ofS HO.out (L' := w2.heap.size) (Nat.le_refl _) HE.out.sz)
 obtain ⟨M3, hM3⟩ : ∃ M, M = u1.heap.size := ⟨_, rfl⟩
 replace OO2 := zh (OO2.out.wide (L' := M2) (M' := M3) (by have := hM2.out; omega) (by omega))
 have HSZ : Hid (M3 ≤ (u1).heap.size) := zh (by rw [hM3]; simp)
 replace hM3 : Hid (w.heap.size + 1 + 1 + 1 ≤ M3) := zh (by have := HE.out.sz; omega)
 refine abs_world (fun W => Ext w W ∧ w.heap.size + 1 + 1 + 1 ≤ W.heap.size ∧ Bk W w.heap.size [.slice a0 x.Parts.length c0, .slice a1 x.Channels.length c1, .slice a2 x.Slots.length c2] 41 ∧ Bk W (w.heap.size + 1) [.slice none 0 0, .slice none 0 0, .slice none 0 0] 41 ∧ Bk W (w.heap.size + 1 + 1) [.slice p0 x.Parts.length q0, .slice p1 x.Channels.length q1, .slice p2 x.Slots.length q2] 41 ∧ Hid (Oe M0 M1 W [.slice p0 x.Parts.length q0] x.Parts) ∧ Hid (Oe M1 M2 W [.slice p1 x.Channels.length q1] x.Channels) ∧ Hid (Oe M2 M3 W [.slice p2 x.Slots.length q2] x.Slots) ∧ M3 ≤ W.heap.size) ⟨(Ext.set (E.out.tr HE.out) (by simp <;> omega) _), Nat.le_trans S (Nat.le_trans HE.out.sz (by simp)), (Bk.set_ne (KA.out.ext HE.out) (by simp <;> omega) _), (Bk.set_ne (KB.out.ext HE.out) (by simp <;> omega) _), (Bk.set (KC.out.ext HE.out) 2 _), zh ((O0.out.ext HE.out).hi (n := w.heap.size + 1 + 1 + 1) (Hi.set (Hi.refl _ _) (by simp <;> omega) _) (by have := hM0.out;  omega)), zh ((O1.out.ext HE.out).hi (n := w.heap.size + 1 + 1 + 1) (Hi.set (Hi.refl _ _) (by simp <;> omega) _) (by have := hM0.out; have := hM1.out;  omega)), zh (OO2.out.hi (n := w.heap.size + 1 + 1 + 1) (Hi.set (Hi.refl _ _) (by simp <;> omega) _) (by have := hM0.out; have := hM1.out; have := hM2.out;  omega)), by have := HSZ.out; simpa using this⟩ ?_
 rintro w3 ⟨E1, S1, KA1, KB1, KC1, OX0, OX1, OX2, SM⟩
 clear sA HSZ HE HO OO2 KA KB KC E S fz O0 O1 fa2 fc2
 have E := zh E1; have KA := zh KA1; have KB := zh KB1; have KC := zh KC1; have S := S1; have O0 := OX0; clear OX0; have O1 := OX1; clear OX1; have O2 := OX2; clear OX2; clear E1 KA1 KB1 KC1 S1
 replace hM3 : Hid (w.heap.size + 1 + 1 + 1 ≤ M3 ∧ M3 ≤ w3.heap.size) := zh ⟨hM3.out, SM⟩
 clear SM
 obtain ⟨fc0, fc1, fc2⟩ := Bk.k3 KC.out
 obtain ⟨fb0, fb1, fb2⟩ := Bk.k3 KB.out
 have fzb := KB.out.fz
 go_wp2
 refine bodyPost_ret (v := .agg #[.slice p0 x.Parts.length q0, .slice p1 x.Channels.length q1, .slice p2 x.Slots.length q2]) (by simp [results, Tryz.results160, go_sem, fb0, fb1, fb2]) rfl ⟨_, rfl, ?_, ?_⟩
 ·have hh : ∀ {W : World}, Hi (w.heap.size + 1 + 1 + 1) w3 W → Ov (w.heap.size + 1 + 1 + 1) W (.agg #[.slice p0 x.Parts.length q0, .slice p1 x.Channels.length q1, .slice p2 x.Slots.length q2]) x := fun hW =>
   (Oe.mkSetup (O0.out.hi hW (by have := hM0.out;  omega)) (O1.out.hi hW (by have := hM0.out; have := hM1.out;  omega)) (O2.out.hi hW (by have := hM0.out; have := hM1.out; have := hM2.out;  omega))).ov.mono (by have := hM0.out; omega)
  exact (hh ((Hi.set (Hi.set (Hi.set (Hi.refl _ _) (by simp <;> omega) _) (by simp <;> omega) _) (by simp <;> omega) _))).mono (by omega)
 ·exact (Ext.set (Ext.set (Ext.set E.out (by simp <;> omega) _) (by simp <;> omega) _) (by simp <;> omega) _)
theorem spec_l1OwnMachine (v : Value) (x : Machine) (w : World) (h : Rv w v x) (hn : GT.tot x ≤ 1048576) :
  Calls Tryz.prog 98 #[v] w fun e w' => ∃ v', e = .returned v' ∧ Ov w.heap.size w' v' x ∧ Ext w w' := by
 have ht : GT.tot x = GT.tot x.Plan + GT.tot x.Programs + GT.tot x.Cores + GT.tot x.Holds + GT.tot x.Tick := rfl
 obtain ⟨a0, c0, a1, c1, a2, c2, a3, c3, a4, c4, a5, c5, rfl, r6, h0, l0, h1, l1, h2, l2, h3, l3, h4, l4, h5, l5⟩ := h.openMachine
 clear h
 go_enter Tryz.func98, Tryz.ntmps98
 go_upto_region 2 with (fail)
 refine abs_world (fun W => Ext w W ∧ w.heap.size + 1 + 1 + 1 ≤ W.heap.size ∧ Bk W w.heap.size [.slice a0 x.Plan.Parts.length c0, .slice a1 x.Plan.Channels.length c1, .slice a2 x.Plan.Slots.length c2, .slice a3 x.Programs.length c3, .slice a4 x.Cores.length c4, .slice a5 x.Holds.length c5, .int .i64 x.Tick] 46 ∧ Bk W (w.heap.size + 1) [.slice none 0 0, .slice none 0 0, .slice none 0 0, .slice none 0 0, .slice none 0 0, .slice none 0 0, .int .i64 0] 46 ∧ Bk W (w.heap.size + 1 + 1) [.slice a0 x.Plan.Parts.length c0, .slice a1 x.Plan.Channels.length c1, .slice a2 x.Plan.Slots.length c2, .slice a3 x.Programs.length c3, .slice a4 x.Cores.length c4, .slice a5 x.Holds.length c5, .int .i64 x.Tick] 46) ⟨((Ext.refl _).alloc _).alloc _ |>.alloc _, by simp, (Bk.new _ _ _).ext (((Ext.refl _).alloc _).alloc _), (Bk.new1 _ _ _ _).ext ((Ext.refl _).alloc _), Bk.new2 _ _ _ _ _⟩ ?_
 rintro w0 ⟨E, S, KA, KB, KC⟩
 replace E := zh E; replace KA := zh KA; replace KB := zh KB; replace KC := zh KC
 obtain ⟨M0, hM0⟩ : ∃ M0, M0 = w.heap.size + 1 + 1 + 1 := ⟨_, rfl⟩
 replace hM0 := zh hM0
 obtain ⟨fa0, fa1, fa2⟩ := Bk.k3 KA.out
 have sA : w.heap.size < w0.heap.size := by omega
 go_upto_region 3 with (go_at_call 160; refine (spec_l1OwnSetup _ _ _ (Rv.mkSetup (h0.out.ext E.out) (h1.out.ext E.out) (h2.out.ext E.out)) (by omega)).mono ?_; rintro e u1 ⟨v1, rfl, ho, he⟩; obtain ⟨fc0, fc1, fc2⟩ := Bk.k3 (KC.out.ext he); have fz := (KC.out.ext he).fz; have HO := zh ho; have HE := zh he; clear ho he; obtain ⟨p0, q0, p1, q1, p2, q2, rfl, _, _, _, _, _, _⟩ := HO.out.rv.openSetup)
 have OO0 := zh (Oe.ofV HO.out (L' := w0.heap.size) (Nat.le_refl _) HE.out.sz)
 obtain ⟨M1, hM1⟩ : ∃ M, M = u1.heap.size := ⟨_, rfl⟩
 replace OO0 := zh (OO0.out.wide (L' := M0) (M' := M1) (by have := hM0.out; omega) (by omega))
 have HSZ : Hid (M1 ≤ (u1).heap.size) := zh (by rw [hM1]; simp)
 replace hM1 : Hid (w.heap.size + 1 + 1 + 1 ≤ M1) := zh (by have := HE.out.sz; omega)
 refine abs_world (fun W => Ext w W ∧ w.heap.size + 1 + 1 + 1 ≤ W.heap.size ∧ Bk W w.heap.size [.slice a0 x.Plan.Parts.length c0, .slice a1 x.Plan.Channels.length c1, .slice a2 x.Plan.Slots.length c2, .slice a3 x.Programs.length c3, .slice a4 x.Cores.length c4, .slice a5 x.Holds.length c5, .int .i64 x.Tick] 46 ∧ Bk W (w.heap.size + 1) [.slice none 0 0, .slice none 0 0, .slice none 0 0, .slice none 0 0, .slice none 0 0, .slice none 0 0, .int .i64 0] 46 ∧ Bk W (w.heap.size + 1 + 1) [.slice p0 x.Plan.Parts.length q0, .slice p1 x.Plan.Channels.length q1, .slice p2 x.Plan.Slots.length q2, .slice a3 x.Programs.length c3, .slice a4 x.Cores.length c4, .slice a5 x.Holds.length c5, .int .i64 x.Tick] 46 ∧ Hid (Oe M0 M1 W [.slice p0 x.Plan.Parts.length q0, .slice p1 x.Plan.Channels.length q1, .slice p2 x.Plan.Slots.length q2] x.Plan) ∧ M1 ≤ W.heap.size) ⟨(Ext.set (Ext.set (Ext.set (E.out.tr HE.out) (by simp <;> omega) _) (by simp <;> omega) _) (by simp <;> omega) _), Nat.le_trans S (Nat.le_trans HE.out.sz (by simp)), (Bk.set_ne (Bk.set_ne (Bk.set_ne (KA.out.ext HE.out) (by simp <;> omega) _) (by simp <;> omega) _) (by simp <;> omega) _), (Bk.set_ne (Bk.set_ne (Bk.set_ne (KB.out.ext HE.out) (by simp <;> omega) _) (by simp <;> omega) _) (by simp <;> omega) _), (Bk.set (Bk.set (Bk.set (KC.out.ext HE.out) 0 _) 1 _) 2 _), zh (OO0.out.hi (n := w.heap.size + 1 + 1 + 1) (Hi.set (Hi.set (Hi.set (Hi.refl _ _) (by simp <;> omega) _) (by simp <;> omega) _) (by simp <;> omega) _) (by have := hM0.out;  omega)), by have := HSZ.out; simpa using this⟩ ?_
 rintro w1 ⟨E1, S1, KA1, KB1, KC1, OX0, SM⟩
 clear sA HSZ HE HO OO0 KA KB KC E S fz  fa0 fa1 fa2 fc0 fc1 fc2
 have E := zh E1; have KA := zh KA1; have KB := zh KB1; have KC := zh KC1; have S := S1; have O0 := OX0; clear OX0; clear E1 KA1 KB1 KC1 S1
 replace hM1 : Hid (w.heap.size + 1 + 1 + 1 ≤ M1 ∧ M1 ≤ w1.heap.size) := zh ⟨hM1.out, SM⟩
 clear SM
 have fa3 := KA.out.cell (j := 3) rfl
 have sA : w.heap.size < w1.heap.size := by omega
 go_upto_region 4 with (go_at_call 161; refine (spec_l1OwnRowsOrder _ _ _ (h3.out.ext E.out) (by omega)).mono ?_; rintro e u1 ⟨v1, rfl, ho, he⟩; have fc3 := (KC.out.ext he).cell (j := 3) rfl; have fz := (KC.out.ext he).fz; have HO := zh ho; have HE := zh he; clear ho he; obtain ⟨p3, q3, rfl, _⟩ := HO.out.form)
 have OO1 := zh (Oe.ofS HO.out (L' := w1.heap.size) (Nat.le_refl _) HE.out.sz)
 obtain ⟨M2, hM2⟩ : ∃ M, M = u1.heap.size := ⟨_, rfl⟩
 replace OO1 := zh (OO1.out.wide (L' := M1) (M' := M2) (by have := hM1.out; omega) (by omega))
 have HSZ : Hid (M2 ≤ (u1).heap.size) := zh (by rw [hM2]; simp)
 replace hM2 : Hid (w.heap.size + 1 + 1 + 1 ≤ M2) := zh (by have := HE.out.sz; omega)
 refine abs_world (fun W => Ext w W ∧ w.heap.size + 1 + 1 + 1 ≤ W.heap.size ∧ Bk W w.heap.size [.slice a0 x.Plan.Parts.length c0, .slice a1 x.Plan.Channels.length c1, .slice a2 x.Plan.Slots.length c2, .slice a3 x.Programs.length c3, .slice a4 x.Cores.length c4, .slice a5 x.Holds.length c5, .int .i64 x.Tick] 46 ∧ Bk W (w.heap.size + 1) [.slice none 0 0, .slice none 0 0, .slice none 0 0, .slice none 0 0, .slice none 0 0, .slice none 0 0, .int .i64 0] 46 ∧ Bk W (w.heap.size + 1 + 1) [.slice p0 x.Plan.Parts.length q0, .slice p1 x.Plan.Channels.length q1, .slice p2 x.Plan.Slots.length q2, .slice p3 x.Programs.length q3, .slice a4 x.Cores.length c4, .slice a5 x.Holds.length c5, .int .i64 x.Tick] 46 ∧ Hid (Oe M0 M1 W [.slice p0 x.Plan.Parts.length q0, .slice p1 x.Plan.Channels.length q1, .slice p2 x.Plan.Slots.length q2] x.Plan) ∧ Hid (Oe M1 M2 W [.slice p3 x.Programs.length q3] x.Programs) ∧ M2 ≤ W.heap.size) ⟨(Ext.set (E.out.tr HE.out) (by simp <;> omega) _), Nat.le_trans S (Nat.le_trans HE.out.sz (by simp)), (Bk.set_ne (KA.out.ext HE.out) (by simp <;> omega) _), (Bk.set_ne (KB.out.ext HE.out) (by simp <;> omega) _), (Bk.set (KC.out.ext HE.out) 3 _), zh ((O0.out.ext HE.out).hi (n := w.heap.size + 1 + 1 + 1) (Hi.set (Hi.refl _ _) (by simp <;> omega) _) (by have := hM0.out;  omega)), zh (OO1.out.hi (n := w.heap.size + 1 + 1 + 1) (Hi.set (Hi.refl _ _) (by simp <;> omega) _) (by have := hM0.out; have := hM1.out;  omega)), by have := HSZ.out; simpa using this⟩ ?_
 rintro w2 ⟨E1, S1, KA1, KB1, KC1, OX0, OX1, SM⟩
 clear sA HSZ HE HO OO1 KA KB KC E S fz O0 fa3 fc3
 have E := zh E1; have KA := zh KA1; have KB := zh KB1; have KC := zh KC1; have S := S1; have O0 := OX0; clear OX0; have O1 := OX1; clear OX1; clear E1 KA1 KB1 KC1 S1
 replace hM2 : Hid (w.heap.size + 1 + 1 + 1 ≤ M2 ∧ M2 ≤ w2.heap.size) := zh ⟨hM2.out, SM⟩
 clear SM
 have fa4 := KA.out.cell (j := 4) rfl
 have sA : w.heap.size < w2.heap.size := by omega
 go_upto_region 5 with (go_at_call 162; refine (spec_l1OwnCoreList _ _ _ (h4.out.ext E.out) (by omega)).mono ?_; rintro e u1 ⟨v1, rfl, ho, he⟩; have fc4 := (KC.out.ext he).cell (j := 4) rfl; have fz := (KC.out.ext he).fz; have HO := zh ho; have HE := zh he; clear ho he; obtain ⟨p4, q4, rfl, _⟩ := HO.out.form)
 have OO2 := zh (Oe.ofS HO.out (L' := w2.heap.size) (Nat.le_refl _) HE.out.sz)
 obtain ⟨M3, hM3⟩ : ∃ M, M = u1.heap.size := ⟨_, rfl⟩
 replace OO2 := zh (OO2.out.wide (L' := M2) (M' := M3) (by have := hM2.out; omega) (by omega))
 have HSZ : Hid (M3 ≤ (u1).heap.size) := zh (by rw [hM3]; simp)
 replace hM3 : Hid (w.heap.size + 1 + 1 + 1 ≤ M3) := zh (by have := HE.out.sz; omega)
 refine abs_world (fun W => Ext w W ∧ w.heap.size + 1 + 1 + 1 ≤ W.heap.size ∧ Bk W w.heap.size [.slice a0 x.Plan.Parts.length c0, .slice a1 x.Plan.Channels.length c1, .slice a2 x.Plan.Slots.length c2, .slice a3 x.Programs.length c3, .slice a4 x.Cores.length c4, .slice a5 x.Holds.length c5, .int .i64 x.Tick] 46 ∧ Bk W (w.heap.size + 1) [.slice none 0 0, .slice none 0 0, .slice none 0 0, .slice none 0 0, .slice none 0 0, .slice none 0 0, .int .i64 0] 46 ∧ Bk W (w.heap.size + 1 + 1) [.slice p0 x.Plan.Parts.length q0, .slice p1 x.Plan.Channels.length q1, .slice p2 x.Plan.Slots.length q2, .slice p3 x.Programs.length q3, .slice p4 x.Cores.length q4, .slice a5 x.Holds.length c5, .int .i64 x.Tick] 46 ∧ Hid (Oe M0 M1 W [.slice p0 x.Plan.Parts.length q0, .slice p1 x.Plan.Channels.length q1, .slice p2 x.Plan.Slots.length q2] x.Plan) ∧ Hid (Oe M1 M2 W [.slice p3 x.Programs.length q3] x.Programs) ∧ Hid (Oe M2 M3 W [.slice p4 x.Cores.length q4] x.Cores) ∧ M3 ≤ W.heap.size) ⟨(Ext.set (E.out.tr HE.out) (by simp <;> omega) _), Nat.le_trans S (Nat.le_trans HE.out.sz (by simp)), (Bk.set_ne (KA.out.ext HE.out) (by simp <;> omega) _), (Bk.set_ne (KB.out.ext HE.out) (by simp <;> omega) _), (Bk.set (KC.out.ext HE.out) 4 _), zh ((O0.out.ext HE.out).hi (n := w.heap.size + 1 + 1 + 1) (Hi.set (Hi.refl _ _) (by simp <;> omega) _) (by have := hM0.out;  omega)), zh ((O1.out.ext HE.out).hi (n := w.heap.size + 1 + 1 + 1) (Hi.set (Hi.refl _ _) (by simp <;> omega) _) (by have := hM0.out; have := hM1.out;  omega)), zh (OO2.out.hi (n := w.heap.size + 1 + 1 + 1) (Hi.set (Hi.refl _ _) (by simp <;> omega) _) (by have := hM0.out; have := hM1.out; have := hM2.out;  omega)), by have := HSZ.out; simpa using this⟩ ?_
 rintro w3 ⟨E1, S1, KA1, KB1, KC1, OX0, OX1, OX2, SM⟩
 clear sA HSZ HE HO OO2 KA KB KC E S fz O0 O1 fa4 fc4
 have E := zh E1; have KA := zh KA1; have KB := zh KB1; have KC := zh KC1; have S := S1; have O0 := OX0; clear OX0; have O1 := OX1; clear OX1; have O2 := OX2; clear OX2; clear E1 KA1 KB1 KC1 S1
 replace hM3 : Hid (w.heap.size + 1 + 1 + 1 ≤ M3 ∧ M3 ≤ w3.heap.size) := zh ⟨hM3.out, SM⟩
 clear SM
 have fa5 := KA.out.cell (j := 5) rfl
 have sA : w.heap.size < w3.heap.size := by omega
 go_upto_region 6 with (go_at_call 163; refine (spec_l1OwnHoldList _ _ _ (h5.out.ext E.out) (by omega)).mono ?_; rintro e u1 ⟨v1, rfl, ho, he⟩; have fc5 := (KC.out.ext he).cell (j := 5) rfl; have fz := (KC.out.ext he).fz; have HO := zh ho; have HE := zh he; clear ho he; obtain ⟨p5, q5, rfl, _⟩ := HO.out.form)
 have OO3 := zh (Oe.ofS HO.out (L' := w3.heap.size) (Nat.le_refl _) HE.out.sz)
 obtain ⟨M4, hM4⟩ : ∃ M, M = u1.heap.size := ⟨_, rfl⟩
 replace OO3 := zh (OO3.out.wide (L' := M3) (M' := M4) (by have := hM3.out; omega) (by omega))
 have HSZ : Hid (M4 ≤ (u1).heap.size) := zh (by rw [hM4]; simp)
 replace hM4 : Hid (w.heap.size + 1 + 1 + 1 ≤ M4) := zh (by have := HE.out.sz; omega)
 refine abs_world (fun W => Ext w W ∧ w.heap.size + 1 + 1 + 1 ≤ W.heap.size ∧ Bk W w.heap.size [.slice a0 x.Plan.Parts.length c0, .slice a1 x.Plan.Channels.length c1, .slice a2 x.Plan.Slots.length c2, .slice a3 x.Programs.length c3, .slice a4 x.Cores.length c4, .slice a5 x.Holds.length c5, .int .i64 x.Tick] 46 ∧ Bk W (w.heap.size + 1) [.slice none 0 0, .slice none 0 0, .slice none 0 0, .slice none 0 0, .slice none 0 0, .slice none 0 0, .int .i64 0] 46 ∧ Bk W (w.heap.size + 1 + 1) [.slice p0 x.Plan.Parts.length q0, .slice p1 x.Plan.Channels.length q1, .slice p2 x.Plan.Slots.length q2, .slice p3 x.Programs.length q3, .slice p4 x.Cores.length q4, .slice p5 x.Holds.length q5, .int .i64 x.Tick] 46 ∧ Hid (Oe M0 M1 W [.slice p0 x.Plan.Parts.length q0, .slice p1 x.Plan.Channels.length q1, .slice p2 x.Plan.Slots.length q2] x.Plan) ∧ Hid (Oe M1 M2 W [.slice p3 x.Programs.length q3] x.Programs) ∧ Hid (Oe M2 M3 W [.slice p4 x.Cores.length q4] x.Cores) ∧ Hid (Oe M3 M4 W [.slice p5 x.Holds.length q5] x.Holds) ∧ M4 ≤ W.heap.size) ⟨(Ext.set (E.out.tr HE.out) (by simp <;> omega) _), Nat.le_trans S (Nat.le_trans HE.out.sz (by simp)), (Bk.set_ne (KA.out.ext HE.out) (by simp <;> omega) _), (Bk.set_ne (KB.out.ext HE.out) (by simp <;> omega) _), (Bk.set (KC.out.ext HE.out) 5 _), zh ((O0.out.ext HE.out).hi (n := w.heap.size + 1 + 1 + 1) (Hi.set (Hi.refl _ _) (by simp <;> omega) _) (by have := hM0.out;  omega)), zh ((O1.out.ext HE.out).hi (n := w.heap.size + 1 + 1 + 1) (Hi.set (Hi.refl _ _) (by simp <;> omega) _) (by have := hM0.out; have := hM1.out;  omega)), zh ((O2.out.ext HE.out).hi (n := w.heap.size + 1 + 1 + 1) (Hi.set (Hi.refl _ _) (by simp <;> omega) _) (by have := hM0.out; have := hM1.out; have := hM2.out;  omega)), zh (OO3.out.hi (n := w.heap.size + 1 + 1 + 1) (Hi.set (Hi.refl _ _) (by simp <;> omega) _) (by have := hM0.out; have := hM1.out; have := hM2.out; have := hM3.out;  omega)), by have := HSZ.out; simpa using this⟩ ?_
 rintro w4 ⟨E1, S1, KA1, KB1, KC1, OX0, OX1, OX2, OX3, SM⟩
 clear sA HSZ HE HO OO3 KA KB KC E S fz O0 O1 O2 fa5 fc5
 have E := zh E1; have KA := zh KA1; have KB := zh KB1; have KC := zh KC1; have S := S1; have O0 := OX0; clear OX0; have O1 := OX1; clear OX1; have O2 := OX2; clear OX2; have O3 := OX3; clear OX3; clear E1 KA1 KB1 KC1 S1
 replace hM4 : Hid (w.heap.size + 1 + 1 + 1 ≤ M4 ∧ M4 ≤ w4.heap.size) := zh ⟨hM4.out, SM⟩
 clear SM
 obtain ⟨fc0, fc1, fc2, fc3, fc4, fc5, fc6⟩ := Bk.k7 KC.out
 obtain ⟨fb0, fb1, fb2, fb3, fb4, fb5, fb6⟩ := Bk.k7 KB.out
 have fzb := KB.out.fz
 go_wp2
 refine bodyPost_ret (v := .agg #[.slice p0 x.Plan.Parts.length q0, .slice p1 x.Plan.Channels.length q1, .slice p2 x.Plan.Slots.length q2, .slice p3 x.Programs.length q3, .slice p4 x.Cores.length q4, .slice p5 x.Holds.length q5, .int .i64 x.Tick]) (by simp [results, Tryz.results98, go_sem, fb0, fb1, fb2, fb3, fb4, fb5, fb6]) rfl ⟨_, rfl, ?_, ?_⟩
 ·have hh : ∀ {W : World}, Hi (w.heap.size + 1 + 1 + 1) w4 W → Ov (w.heap.size + 1 + 1 + 1) W (.agg #[.slice p0 x.Plan.Parts.length q0, .slice p1 x.Plan.Channels.length q1, .slice p2 x.Plan.Slots.length q2, .slice p3 x.Programs.length q3, .slice p4 x.Cores.length q4, .slice p5 x.Holds.length q5, .int .i64 x.Tick]) x := fun hW =>
   (Oe.mkMachine (O0.out.hi hW (by have := hM0.out;  omega)) (O1.out.hi hW (by have := hM0.out; have := hM1.out;  omega)) (O2.out.hi hW (by have := hM0.out; have := hM1.out; have := hM2.out;  omega)) (O3.out.hi hW (by have := hM0.out; have := hM1.out; have := hM2.out; have := hM3.out;  omega)) r6).ov.mono (by have := hM0.out; omega)
  exact (hh ((Hi.set (Hi.set (Hi.set (Hi.set (Hi.set (Hi.set (Hi.set (Hi.refl _ _) (by simp <;> omega) _) (by simp <;> omega) _) (by simp <;> omega) _) (by simp <;> omega) _) (by simp <;> omega) _) (by simp <;> omega) _) (by simp <;> omega) _))).mono (by omega)
 ·exact (Ext.set (Ext.set (Ext.set (Ext.set (Ext.set (Ext.set (Ext.set E.out (by simp <;> omega) _) (by simp <;> omega) _) (by simp <;> omega) _) (by simp <;> omega) _) (by simp <;> omega) _) (by simp <;> omega) _) (by simp <;> omega) _)
theorem spec_l1OwnWatch (v : Value) (x : Watch) (w : World) (h : Rv w v x) (hn : GT.tot x ≤ 1048576) :
  Calls Tryz.prog 46 #[v] w fun e w' => ∃ v', e = .returned v' ∧ Ov w.heap.size w' v' x ∧ Ext w w' := by
 have ht : GT.tot x = GT.tot x.Box + GT.tot x.States := rfl
 obtain ⟨a0, c0, a1, c1, a2, c2, a3, c3, a4, c4, a5, c5, a7, c7, rfl, r6, h0, l0, h1, l1, h2, l2, h3, l3, h4, l4, h5, l5, h7, l7⟩ := h.openWatch
 clear h
 go_enter Tryz.func46, Tryz.ntmps46
 go_upto_region 2 with (fail)
 refine abs_world (fun W => Ext w W ∧ w.heap.size + 1 + 1 + 1 ≤ W.heap.size ∧ Bk W w.heap.size [.slice a0 x.Box.Plan.Parts.length c0, .slice a1 x.Box.Plan.Channels.length c1, .slice a2 x.Box.Plan.Slots.length c2, .slice a3 x.Box.Programs.length c3, .slice a4 x.Box.Cores.length c4, .slice a5 x.Box.Holds.length c5, .int .i64 x.Box.Tick, .slice a7 x.States.length c7] 49 ∧ Bk W (w.heap.size + 1) [.slice none 0 0, .slice none 0 0, .slice none 0 0, .slice none 0 0, .slice none 0 0, .slice none 0 0, .int .i64 0, .slice none 0 0] 49 ∧ Bk W (w.heap.size + 1 + 1) [.slice a0 x.Box.Plan.Parts.length c0, .slice a1 x.Box.Plan.Channels.length c1, .slice a2 x.Box.Plan.Slots.length c2, .slice a3 x.Box.Programs.length c3, .slice a4 x.Box.Cores.length c4, .slice a5 x.Box.Holds.length c5, .int .i64 x.Box.Tick, .slice a7 x.States.length c7] 49) ⟨((Ext.refl _).alloc _).alloc _ |>.alloc _, by simp, (Bk.new _ _ _).ext (((Ext.refl _).alloc _).alloc _), (Bk.new1 _ _ _ _).ext ((Ext.refl _).alloc _), Bk.new2 _ _ _ _ _⟩ ?_
 rintro w0 ⟨E, S, KA, KB, KC⟩
 replace E := zh E; replace KA := zh KA; replace KB := zh KB; replace KC := zh KC
 obtain ⟨M0, hM0⟩ : ∃ M0, M0 = w.heap.size + 1 + 1 + 1 := ⟨_, rfl⟩
 replace hM0 := zh hM0
 obtain ⟨fa0, fa1, fa2, fa3, fa4, fa5, fa6⟩ := Bk.k7 KA.out
 have sA : w.heap.size < w0.heap.size := by omega
 go_upto_region 3 with (go_at_call 98; refine (spec_l1OwnMachine _ _ _ (Rv.mkMachine (h0.out.ext E.out) (h1.out.ext E.out) (h2.out.ext E.out) (h3.out.ext E.out) (h4.out.ext E.out) (h5.out.ext E.out) r6) (by omega)).mono ?_; rintro e u1 ⟨v1, rfl, ho, he⟩; obtain ⟨fc0, fc1, fc2, fc3, fc4, fc5, fc6⟩ := Bk.k7 (KC.out.ext he); have fz := (KC.out.ext he).fz; have HO := zh ho; have HE := zh he; clear ho he; obtain ⟨p0, q0, p1, q1, p2, q2, p3, q3, p4, q4, p5, q5, rfl, _, _, _, _, _, _, _, _, _, _, _, _, _⟩ := HO.out.rv.openMachine)
 have OO0 := zh (Oe.ofV HO.out (L' := w0.heap.size) (Nat.le_refl _) HE.out.sz)
 obtain ⟨M1, hM1⟩ : ∃ M, M = u1.heap.size := ⟨_, rfl⟩
 replace OO0 := zh (OO0.out.wide (L' := M0) (M' := M1) (by have := hM0.out; omega) (by omega))
 have HSZ : Hid (M1 ≤ (u1).heap.size) := zh (by rw [hM1]; simp)
 replace hM1 : Hid (w.heap.size + 1 + 1 + 1 ≤ M1) := zh (by have := HE.out.sz; omega)
 refine abs_world (fun W => Ext w W ∧ w.heap.size + 1 + 1 + 1 ≤ W.heap.size ∧ Bk W w.heap.size [.slice a0 x.Box.Plan.Parts.length c0, .slice a1 x.Box.Plan.Channels.length c1, .slice a2 x.Box.Plan.Slots.length c2, .slice a3 x.Box.Programs.length c3, .slice a4 x.Box.Cores.length c4, .slice a5 x.Box.Holds.length c5, .int .i64 x.Box.Tick, .slice a7 x.States.length c7] 49 ∧ Bk W (w.heap.size + 1) [.slice none 0 0, .slice none 0 0, .slice none 0 0, .slice none 0 0, .slice none 0 0, .slice none 0 0, .int .i64 0, .slice none 0 0] 49 ∧ Bk W (w.heap.size + 1 + 1) [.slice p0 x.Box.Plan.Parts.length q0, .slice p1 x.Box.Plan.Channels.length q1, .slice p2 x.Box.Plan.Slots.length q2, .slice p3 x.Box.Programs.length q3, .slice p4 x.Box.Cores.length q4, .slice p5 x.Box.Holds.length q5, .int .i64 x.Box.Tick, .slice a7 x.States.length c7] 49 ∧ Hid (Oe M0 M1 W [.slice p0 x.Box.Plan.Parts.length q0, .slice p1 x.Box.Plan.Channels.length q1, .slice p2 x.Box.Plan.Slots.length q2, .slice p3 x.Box.Programs.length q3, .slice p4 x.Box.Cores.length q4, .slice p5 x.Box.Holds.length q5, .int .i64 x.Box.Tick] x.Box) ∧ M1 ≤ W.heap.size) ⟨(Ext.set (Ext.set (Ext.set (Ext.set (Ext.set (Ext.set (Ext.set (E.out.tr HE.out) (by simp <;> omega) _) (by simp <;> omega) _) (by simp <;> omega) _) (by simp <;> omega) _) (by simp <;> omega) _) (by simp <;> omega) _) (by simp <;> omega) _), Nat.le_trans S (Nat.le_trans HE.out.sz (by simp)), (Bk.set_ne (Bk.set_ne (Bk.set_ne (Bk.set_ne (Bk.set_ne (Bk.set_ne (Bk.set_ne (KA.out.ext HE.out) (by simp <;> omega) _) (by simp <;> omega) _) (by simp <;> omega) _) (by simp <;> omega) _) (by simp <;> omega) _) (by simp <;> omega) _) (by simp <;> omega) _), (Bk.set_ne (Bk.set_ne (Bk.set_ne (Bk.set_ne (Bk.set_ne (Bk.set_ne (Bk.set_ne (KB.out.ext HE.out) (by simp <;> omega) _) (by simp <;> omega) _) (by simp <;> omega) _) (by simp <;> omega) _) (by simp <;> omega) _) (by simp <;> omega) _) (by simp <;> omega) _), (Bk.set (Bk.set (Bk.set (Bk.set (Bk.set (Bk.set (Bk.set (KC.out.ext HE.out) 0 _) 1 _) 2 _) 3 _) 4 _) 5 _) 6 _), zh (OO0.out.hi (n := w.heap.size + 1 + 1 + 1) (Hi.set (Hi.set (Hi.set (Hi.set (Hi.set (Hi.set (Hi.set (Hi.refl _ _) (by simp <;> omega) _) (by simp <;> omega) _) (by simp <;> omega) _) (by simp <;> omega) _) (by simp <;> omega) _) (by simp <;> omega) _) (by simp <;> omega) _) (by have := hM0.out;  omega)), by have := HSZ.out; simpa using this⟩ ?_
 rintro w1 ⟨E1, S1, KA1, KB1, KC1, OX0, SM⟩
 clear sA HSZ HE HO OO0 KA KB KC E S fz  fa0 fa1 fa2 fa3 fa4 fa5 fa6 fc0 fc1 fc2 fc3 fc4 fc5 fc6
 have E := zh E1; have KA := zh KA1; have KB := zh KB1; have KC := zh KC1; have S := S1; have O0 := OX0; clear OX0; clear E1 KA1 KB1 KC1 S1
 replace hM1 : Hid (w.heap.size + 1 + 1 + 1 ≤ M1 ∧ M1 ≤ w1.heap.size) := zh ⟨hM1.out, SM⟩
 clear SM
 have fa7 := KA.out.cell (j := 7) rfl
 have sA : w.heap.size < w1.heap.size := by omega
 go_upto_region 4 with (at_builtin; refine wpl_appF (α := Health) rfl _ _ 47 rfl 116 Tryz.underlying47 elHealth (L := w1.heap.size) (v := .slice (some ⟨w1.heap.size, 0, none⟩) 0 0) (xs := []) (ys := x.States) rfl (Oa.lit0' _ _ rfl) rfl (h7.out.ext (E.out.alloc _)) (by have := tot_len (xs := x.States); simp; omega) (by simp) ?_; intro v1 u1 hO1 hg1; have he := ext_app0 hg1 (Nat.le_refl _); have ho := hO1.osF; clear hO1 hg1; have fc7 := (KC.out.ext he).cell (j := 7) rfl; have fz := (KC.out.ext he).fz; have HO := zh ho; have HE := zh he; clear ho he; obtain ⟨p7, q7, rfl, _⟩ := HO.out.form)
 have OO1 := zh (Oe.ofS HO.out (L' := w1.heap.size) (Nat.le_refl _) HE.out.sz)
 obtain ⟨M2, hM2⟩ : ∃ M, M = u1.heap.size := ⟨_, rfl⟩
 replace OO1 := zh (OO1.out.wide (L' := M1) (M' := M2) (by have := hM1.out; omega) (by omega))
 have HSZ : Hid (M2 ≤ (u1).heap.size) := zh (by rw [hM2]; simp)
 replace hM2 : Hid (w.heap.size + 1 + 1 + 1 ≤ M2) := zh (by have := HE.out.sz; omega)
 refine abs_world (fun W => Ext w W ∧ w.heap.size + 1 + 1 + 1 ≤ W.heap.size ∧ Bk W w.heap.size [.slice a0 x.Box.Plan.Parts.length c0, .slice a1 x.Box.Plan.Channels.length c1, .slice a2 x.Box.Plan.Slots.length c2, .slice a3 x.Box.Programs.length c3, .slice a4 x.Box.Cores.length c4, .slice a5 x.Box.Holds.length c5, .int .i64 x.Box.Tick, .slice a7 x.States.length c7] 49 ∧ Bk W (w.heap.size + 1) [.slice none 0 0, .slice none 0 0, .slice none 0 0, .slice none 0 0, .slice none 0 0, .slice none 0 0, .int .i64 0, .slice none 0 0] 49 ∧ Bk W (w.heap.size + 1 + 1) [.slice p0 x.Box.Plan.Parts.length q0, .slice p1 x.Box.Plan.Channels.length q1, .slice p2 x.Box.Plan.Slots.length q2, .slice p3 x.Box.Programs.length q3, .slice p4 x.Box.Cores.length q4, .slice p5 x.Box.Holds.length q5, .int .i64 x.Box.Tick, .slice p7 x.States.length q7] 49 ∧ Hid (Oe M0 M1 W [.slice p0 x.Box.Plan.Parts.length q0, .slice p1 x.Box.Plan.Channels.length q1, .slice p2 x.Box.Plan.Slots.length q2, .slice p3 x.Box.Programs.length q3, .slice p4 x.Box.Cores.length q4, .slice p5 x.Box.Holds.length q5, .int .i64 x.Box.Tick] x.Box) ∧ Hid (Oe M1 M2 W [.slice p7 x.States.length q7] x.States) ∧ M2 ≤ W.heap.size) ⟨(Ext.set (E.out.tr HE.out) (by simp <;> omega) _), Nat.le_trans S (Nat.le_trans HE.out.sz (by simp)), (Bk.set_ne (KA.out.ext HE.out) (by simp <;> omega) _), (Bk.set_ne (KB.out.ext HE.out) (by simp <;> omega) _), (Bk.set (KC.out.ext HE.out) 7 _), zh ((O0.out.ext HE.out).hi (n := w.heap.size + 1 + 1 + 1) (Hi.set (Hi.refl _ _) (by simp <;> omega) _) (by have := hM0.out;  omega)), zh (OO1.out.hi (n := w.heap.size + 1 + 1 + 1) (Hi.set (Hi.refl _ _) (by simp <;> omega) _) (by have := hM0.out; have := hM1.out;  omega)), by have := HSZ.out; simpa using this⟩ ?_
 rintro w2 ⟨E1, S1, KA1, KB1, KC1, OX0, OX1, SM⟩
 clear sA HSZ HE HO OO1 KA KB KC E S fz O0 fa7 fc7
 have E := zh E1; have KA := zh KA1; have KB := zh KB1; have KC := zh KC1; have S := S1; have O0 := OX0; clear OX0; have O1 := OX1; clear OX1; clear E1 KA1 KB1 KC1 S1
 replace hM2 : Hid (w.heap.size + 1 + 1 + 1 ≤ M2 ∧ M2 ≤ w2.heap.size) := zh ⟨hM2.out, SM⟩
 clear SM
 obtain ⟨fc0, fc1, fc2, fc3, fc4, fc5, fc6, fc7⟩ := Bk.k8 KC.out
 obtain ⟨fb0, fb1, fb2, fb3, fb4, fb5, fb6, fb7⟩ := Bk.k8 KB.out
 have fzb := KB.out.fz
 go_wp2
 refine bodyPost_ret (v := .agg #[.slice p0 x.Box.Plan.Parts.length q0, .slice p1 x.Box.Plan.Channels.length q1, .slice p2 x.Box.Plan.Slots.length q2, .slice p3 x.Box.Programs.length q3, .slice p4 x.Box.Cores.length q4, .slice p5 x.Box.Holds.length q5, .int .i64 x.Box.Tick, .slice p7 x.States.length q7]) (by simp [results, Tryz.results46, go_sem, fb0, fb1, fb2, fb3, fb4, fb5, fb6, fb7]) rfl ⟨_, rfl, ?_, ?_⟩
 ·have hh : ∀ {W : World}, Hi (w.heap.size + 1 + 1 + 1) w2 W → Ov (w.heap.size + 1 + 1 + 1) W (.agg #[.slice p0 x.Box.Plan.Parts.length q0, .slice p1 x.Box.Plan.Channels.length q1, .slice p2 x.Box.Plan.Slots.length q2, .slice p3 x.Box.Programs.length q3, .slice p4 x.Box.Cores.length q4, .slice p5 x.Box.Holds.length q5, .int .i64 x.Box.Tick, .slice p7 x.States.length q7]) x := fun hW =>
   (Oe.mkWatch (O0.out.hi hW (by have := hM0.out;  omega)) (O1.out.hi hW (by have := hM0.out; have := hM1.out;  omega))).ov.mono (by have := hM0.out; omega)
  exact (hh ((Hi.set (Hi.set (Hi.set (Hi.set (Hi.set (Hi.set (Hi.set (Hi.set (Hi.refl _ _) (by simp <;> omega) _) (by simp <;> omega) _) (by simp <;> omega) _) (by simp <;> omega) _) (by simp <;> omega) _) (by simp <;> omega) _) (by simp <;> omega) _) (by simp <;> omega) _))).mono (by omega)
 ·exact (Ext.set (Ext.set (Ext.set (Ext.set (Ext.set (Ext.set (Ext.set (Ext.set E.out (by simp <;> omega) _) (by simp <;> omega) _) (by simp <;> omega) _) (by simp <;> omega) _) (by simp <;> omega) _) (by simp <;> omega) _) (by simp <;> omega) _) (by simp <;> omega) _)
end Sk
