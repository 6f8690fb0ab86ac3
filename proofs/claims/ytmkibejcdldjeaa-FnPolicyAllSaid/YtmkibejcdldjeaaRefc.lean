/- Contracts of functions of the given program, and lemmas for them: each theorem states the condition under which it holds. -/
import Derived.Test.YtmkibejcdldjeaaChecked
import Derived.Deep.CutBlock
import Derived.Test.YtmkibejcdldjeaaFlat
import Derived.Test.YtmkibejcdldjeaaClone
namespace Sk
open Go Go.Proofs Go.RowKit
set_option maxHeartbeats 400000
set_option maxRecDepth 100000
set_option linter.unusedVariables false
set_option linter.unusedSimpArgs false
/-- The world under a name: what is needed of it is said of it. -/
theorem abs_world {P : Program} {c : Code} {a : Act} {W : World} {Q : Exit → Act → World → Prop} (F : World → Prop) (hF : F W) (h : ∀ W1, F W1 → Code.wp P c Q a W1) : Code.wp P c Q a W := h W hF
theorem Oa.lit0' {α : Type} [GT α] (e : TypeId) (w : World) {B : Nat} (hB : B = w.heap.size) : Oa (α := α) e B (w.alloc (.cells #[] e (0, 0))) (.slice (some ⟨B, 0, none⟩) 0 0) [] [] := by subst hB; exact Oa.lit0 e w
theorem ext_app0 {W w' : World} {o : Obj} {B : Nat} (hg : (W.alloc o).grownBy w' (Value.ownBlock (.slice (some ⟨B, 0, none⟩) 0 0))) (hB : W.heap.size ≤ B) : Ext W w' :=
  Ext.grown ((Ext.refl W).alloc _) hg (fun k hk => by cases hk; exact hB)
theorem elBool : El Try.prog 4 Bool := El.of (z := .bool false) (n := 1) (b := 1) (by kernel_rfl) rfl rfl (by decide)
theorem elBoolS : El Try.prog 36 (List Bool) := El.of (z := .slice none 0 0) (n := 1) (b := 24) (by kernel_rfl) rfl rfl (by decide)
theorem agg_inj {cs : List Value} {ar : Array Value} (h : (.agg ar : Value) = .agg cs.toArray) : ar = cs.toArray := by cases h; rfl
theorem spec_l1OwnPart (v : Value) (x : Part) (w : World) (h : Rv w v x) (hn : GT.tot x ≤ 1048576) :
    Calls Try.prog 91 #[v] w fun e w' => ∃ v', e = .returned v' ∧ Ov w.heap.size w' v' x ∧ Ext w w' := by
  have ht : GT.tot x = GT.tot x.Windows + GT.tot x.Cells := rfl
  obtain ⟨a0, c0, rfl, r1, h0, l0⟩ := h.openPart
  clear h
  go_enter Try.func91, Try.ntmps91
  go_upto_region 2 with (fail)
  refine abs_world (fun W => Ext w W ∧ w.heap.size + 1 + 1 + 1 ≤ W.heap.size ∧ Bk W w.heap.size [.slice a0 x.Windows.length c0, .int .i64 x.Cells] 53 ∧ Bk W (w.heap.size + 1) [.slice none 0 0, .int .i64 0] 53 ∧ Bk W (w.heap.size + 1 + 1) [.slice a0 x.Windows.length c0, .int .i64 x.Cells] 53) ⟨((Ext.refl _).alloc _).alloc _ |>.alloc _, by simp, (Bk.new _ _ _).ext (((Ext.refl _).alloc _).alloc _), (Bk.new1 _ _ _ _).ext ((Ext.refl _).alloc _), Bk.new2 _ _ _ _ _⟩ ?_
  rintro w0 ⟨E, S, KA, KB, KC⟩
  replace E := Lib.hid E; replace KA := Lib.hid KA; replace KB := Lib.hid KB; replace KC := Lib.hid KC
  obtain ⟨M0, hM0⟩ : ∃ M0, M0 = w.heap.size + 1 + 1 + 1 := ⟨_, rfl⟩
  replace hM0 := Lib.hid hM0
  have fa0 := KA.out.cell (j := 0) rfl
  have sA : w.heap.size < w0.heap.size := by omega
  go_upto_region 3 with (at_builtin; refine wpl_appF (α := Window) rfl _ _ 51 rfl 55 Try.underlying51 elWindow (L := w0.heap.size) (v := .slice (some ⟨w0.heap.size, 0, none⟩) 0 0) (xs := []) (ys := x.Windows) rfl (Oa.lit0' _ _ rfl) rfl (h0.out.ext (E.out.alloc _)) (by have := tot_len (xs := x.Windows); simp; omega) (by simp) ?_; intro v1 u1 hO1 hg1; have he := ext_app0 hg1 (Nat.le_refl _); have ho := hO1.osF; clear hO1 hg1; have fc0 := (KC.out.ext he).cell (j := 0) rfl; have fz := (KC.out.ext he).fz; have HO := Lib.hid ho; have HE := Lib.hid he; clear ho he; obtain ⟨p0, q0, rfl, _⟩ := HO.out.form)
  have OO0 := Lib.hid (Oe.ofS HO.out (L' := w0.heap.size) (Nat.le_refl _) HE.out.sz)
  obtain ⟨M1, hM1⟩ : ∃ M, M = u1.heap.size := ⟨_, rfl⟩
  replace OO0 := Lib.hid (OO0.out.wide (L' := M0) (M' := M1) (by have := hM0.out; omega) (by omega))
  have HSZ : Hid (M1 ≤ (u1).heap.size) := Lib.hid (by rw [hM1]; simp)
  replace hM1 : Hid (w.heap.size + 1 + 1 + 1 ≤ M1) := Lib.hid (by have := HE.out.sz; omega)
  refine abs_world (fun W => Ext w W ∧ w.heap.size + 1 + 1 + 1 ≤ W.heap.size ∧ Bk W w.heap.size [.slice a0 x.Windows.length c0, .int .i64 x.Cells] 53 ∧ Bk W (w.heap.size + 1) [.slice none 0 0, .int .i64 0] 53 ∧ Bk W (w.heap.size + 1 + 1) [.slice p0 x.Windows.length q0, .int .i64 x.Cells] 53 ∧ Hid (Oe M0 M1 W [.slice p0 x.Windows.length q0] x.Windows) ∧ M1 ≤ W.heap.size) ⟨(Ext.set (E.out.tr HE.out) (by simp <;> omega) _), Nat.le_trans S (Nat.le_trans HE.out.sz (by simp)), (Bk.set_ne (KA.out.ext HE.out) (by simp <;> omega) _), (Bk.set_ne (KB.out.ext HE.out) (by simp <;> omega) _), (Bk.set (KC.out.ext HE.out) 0 _), Lib.hid (OO0.out.hi (n := w.heap.size + 1 + 1 + 1) (Hi.set (Hi.refl _ _) (by simp <;> omega) _) (by have := hM0.out;  omega)), by have := HSZ.out; simpa using this⟩ ?_
  rintro w1 ⟨E1, S1, KA1, KB1, KC1, OX0, SM⟩
  clear sA HSZ HE HO OO0 KA KB KC E S fz  fa0 fc0
  have E := Lib.hid E1; have KA := Lib.hid KA1; have KB := Lib.hid KB1; have KC := Lib.hid KC1; have S := S1; have O0 := OX0; clear OX0; clear E1 KA1 KB1 KC1 S1
  replace hM1 : Hid (w.heap.size + 1 + 1 + 1 ≤ M1 ∧ M1 ≤ w1.heap.size) := Lib.hid ⟨hM1.out, SM⟩
  clear SM
  have fc0 := KC.out.cell (j := 0) rfl
  have fc1 := KC.out.cell (j := 1) rfl
  have fb0 := KB.out.cell (j := 0) rfl
  have fb1 := KB.out.cell (j := 1) rfl
  have fzb := KB.out.fz
  go_wp2
  refine bodyPost_ret (v := .agg #[.slice p0 x.Windows.length q0, .int .i64 x.Cells]) (by simp [results, Try.results91, go_sem, fb0, fb1]) rfl ⟨_, rfl, ?_, ?_⟩
  · have hh : ∀ {W : World}, Hi (w.heap.size + 1 + 1 + 1) w1 W → Ov (w.heap.size + 1 + 1 + 1) W (.agg #[.slice p0 x.Windows.length q0, .int .i64 x.Cells]) x := fun hW =>
      (Oe.mkPart (O0.out.hi hW (by have := hM0.out;  omega)) r1).ov.mono (by have := hM0.out; omega)
    exact (hh ((Hi.set (Hi.set (Hi.refl _ _) (by simp <;> omega) _) (by simp <;> omega) _))).mono (by omega)
  · exact (Ext.set (Ext.set E.out (by simp <;> omega) _) (by simp <;> omega) _)
theorem spec_l1OwnRowsBool (v : Value) (xs : List (List Bool)) (w : World) (h : Rs w v xs) (hn : GT.tot xs ≤ 1048576) :
    Calls Try.prog 30 #[v] w fun e w' => ∃ v', e = .returned v' ∧ Os w.heap.size w' v' xs ∧ Ext w w' := by
  obtain ⟨a, c, rfl, hl⟩ := h.form
  have hln : xs.length ≤ 1048576 := Nat.le_trans tot_len hn
  have H := Lib.hid h
  have HN := Lib.hid hn
  clear h hn
  go_enter Try.func30, Try.ntmps30
  go_wp2
  go_loopw [3, 4] (fun out i wr => ∃ (k : Nat) (ao : Option Addr) (no co : Nat), k ≤ xs.length ∧ i = .int .i64 k ∧ out = .slice ao no co ∧ Oo 36 w.heap.size wr (.slice ao no co) (xs.take k) ∧ Ext w wr) (fun _ i _ => xs.length - (intOf i).toNat)
  case atStart => exact ⟨0, _, _, _, Nat.zero_le _, rfl, rfl, Oo.lit0 _ _, (Ext.refl w).alloc _⟩
  case round =>
    obtain ⟨k, ao, no, co, hk, rfl, rfl, ho, hq⟩ := hrel
    have HO := Lib.hid ho
    have HQ := Lib.hid hq
    clear ho hq
    by_cases hlt : k < xs.length
    · obtain ⟨b, o, x, a', c', rfl, _, hx, hc0, HR, hl'⟩ := (H.out.ext HQ.out).atList k hlt
      have hxn : x.length ≤ 1048576 := by have h1 := tot_at hx.out; have h3 := HN.out; have h4 := tot_len (xs := x); omega
      go_wp2_with (first
        | (at_builtin; refine wpl_appF (α := Bool) rfl _ _ 36 rfl 4 Try.underlying36 elBool (L := wr.heap.size) (v := .slice (some ⟨wr.heap.size, 0, none⟩) 0 0) (xs := []) (ys := x) rfl (Oa.lit0' _ _ (by simp)) rfl (HR.out.ext ((Ext.refl _).alloc _)) (by simp; omega) (by simp) ?_; intro v1 w1 hO1 hg1; have he1 := ext_app0 hg1 (by simp); have ho1 := hO1.osF; clear hO1 hg1; obtain ⟨p1, q1, rfl, _⟩ := ho1.form; have HE1 := Lib.hid he1; have HO1 := Lib.hid ho1; clear he1 ho1)
        | (obtain ⟨F1, hs1, hw1⟩ := HO1.out; refine wpl_appO (u := wr) (α := List Bool) rfl _ _ 28 rfl 36 Try.underlying28 elBoolS (v := .slice ao no co) (ys := [x]) rfl HO.out (HE1.out.alloc _) HQ.out.sz rfl rfl (Row.lit1 (cs := [_]) ⟨_, rfl, hs1⟩) (by simp) (hw1.ext ((Ext.refl _).alloc _)) (by simp; omega) ?_; intro v2 w2 hO2 hg2; have he2 := Ext.grown (HE1.out.alloc _) hg2; have HO2 := Lib.hid hO2; have HE2 := Lib.hid (Ext.grown (HQ.out.tr (HE1.out.alloc _)) hg2 HO.out.own); clear hO2 hg2 he2 hs1 hw1; obtain ⟨p2, q2, rfl, _⟩ := HO2.out.form))
      go_roundw
      case rel => exact ⟨k + 1, _, _, _, by omega, by go_num, rfl, by have h := HO2.out; rw [show (xs.take k ++ [x]).length = k + 1 by simp; omega] at h; rw [take_snoc hx.out]; exact h, HE2.out⟩
      case measure => simp [intOf]; omega
    · have HF : Hid (Os w.heap.size wr (.slice ao no co) xs) := Lib.hid (by have := HO.out.os; rwa [List.take_of_length_le (by omega)] at this)
      go_wp2
      go_ret
      exact ⟨_, rfl, HF.out, HQ.out⟩
theorem spec_l1OwnPartList (v : Value) (xs : List Part) (w : World) (h : Rs w v xs) (hn : GT.tot xs ≤ 1048576) :
    Calls Try.prog 60 #[v] w fun e w' => ∃ v', e = .returned v' ∧ Os w.heap.size w' v' xs ∧ Ext w w' := by
  obtain ⟨a, c, rfl, hl⟩ := h.form
  have hln : xs.length ≤ 1048576 := Nat.le_trans tot_len hn
  have H := Lib.hid h
  have HN := Lib.hid hn
  clear h hn
  go_enter Try.func60, Try.ntmps60
  go_wp2
  go_loopw [3, 4] (fun out i wr => ∃ (k : Nat) (ao : Option Addr) (no co : Nat), k ≤ xs.length ∧ i = .int .i64 k ∧ out = .slice ao no co ∧ Oo 53 w.heap.size wr (.slice ao no co) (xs.take k) ∧ Ext w wr) (fun _ i _ => xs.length - (intOf i).toNat)
  case atStart => exact ⟨0, _, _, _, Nat.zero_le _, rfl, rfl, Oo.lit0 _ _, (Ext.refl w).alloc _⟩
  case round =>
    obtain ⟨k, ao, no, co, hk, rfl, rfl, ho, hq⟩ := hrel
    have HO := Lib.hid ho
    have HQ := Lib.hid hq
    clear ho hq
    by_cases hlt : k < xs.length
    · obtain ⟨b, o, x, a0, c0, rfl, _, hx, hc0, hc1, r1, h0, l0, hv⟩ := (H.out.ext HQ.out).atPart k hlt
      have hxn : Hid (GT.tot x ≤ 1048576) := Lib.hid (by have h1 := tot_at hx.out; have h3 := HN.out; omega)
      go_wp2_with (first
        | (go_at_call 91; refine (spec_l1OwnPart _ _ _ hv.out hxn.out).mono ?_; rintro e w1 ⟨v1, rfl, ho1, he1⟩; have HE1 := Lib.hid he1; have HO1 := Lib.hid ho1; obtain ⟨p10, q10, rfl, _, _, _⟩ := ho1.rv.openPart; clear he1 ho1)
        | (at_builtin; obtain ⟨cs1, F1, hcs, hs1, hw1⟩ := HO1.out; refine wpl_appO (u := wr) (α := Part) rfl _ _ 23 rfl 53 Try.underlying23 elPart (v := .slice ao no co) (ys := [x]) rfl HO.out (HE1.out.alloc _) HQ.out.sz rfl rfl (by have h := Row.lit1 (T := 53) hs1; rw [← agg_inj hcs] at h; exact h) (by simp) (hw1.ext ((Ext.refl _).alloc _)) (by simp; omega) ?_; intro v2 w2 hO2 hg2; have HO2 := Lib.hid hO2; have HE2 := Lib.hid (Ext.grown (HQ.out.tr (HE1.out.alloc _)) hg2 HO.out.own); clear hO2 hg2 hs1 hw1 hcs; obtain ⟨p2, q2, rfl, _⟩ := HO2.out.form))
      go_roundw
      case rel => exact ⟨k + 1, _, _, _, by omega, by go_num, rfl, by have h := HO2.out; rw [show (xs.take k ++ [x]).length = k + 1 by simp; omega] at h; rw [take_snoc hx.out]; exact h, HE2.out⟩
      case measure => simp [intOf]; omega
    · have HF : Hid (Os w.heap.size wr (.slice ao no co) xs) := Lib.hid (by have := HO.out.os; rwa [List.take_of_length_le (by omega)] at this)
      go_wp2
      go_ret
      exact ⟨_, rfl, HF.out, HQ.out⟩
theorem spec_l1OwnSetup (v : Value) (x : Setup) (w : World) (h : Rv w v x) (hn : GT.tot x ≤ 1048576) :
    Calls Try.prog 29 #[v] w fun e w' => ∃ v', e = .returned v' ∧ Ov w.heap.size w' v' x ∧ Ext w w' := by
  have ht : GT.tot x = GT.tot x.Parts + GT.tot x.Channels + GT.tot x.Slots := rfl
  obtain ⟨a0, c0, a1, c1, a2, c2, rfl, h0, l0, h1, l1, h2, l2⟩ := h.openSetup
  clear h
  go_enter Try.func29, Try.ntmps29
  go_upto_region 2 with (fail)
  refine abs_world (fun W => Ext w W ∧ w.heap.size + 1 + 1 + 1 ≤ W.heap.size ∧ Bk W w.heap.size [.slice a0 x.Parts.length c0, .slice a1 x.Channels.length c1, .slice a2 x.Slots.length c2] 27 ∧ Bk W (w.heap.size + 1) [.slice none 0 0, .slice none 0 0, .slice none 0 0] 27 ∧ Bk W (w.heap.size + 1 + 1) [.slice a0 x.Parts.length c0, .slice a1 x.Channels.length c1, .slice a2 x.Slots.length c2] 27) ⟨((Ext.refl _).alloc _).alloc _ |>.alloc _, by simp, (Bk.new _ _ _).ext (((Ext.refl _).alloc _).alloc _), (Bk.new1 _ _ _ _).ext ((Ext.refl _).alloc _), Bk.new2 _ _ _ _ _⟩ ?_
  rintro w0 ⟨E, S, KA, KB, KC⟩
  replace E := Lib.hid E; replace KA := Lib.hid KA; replace KB := Lib.hid KB; replace KC := Lib.hid KC
  obtain ⟨M0, hM0⟩ : ∃ M0, M0 = w.heap.size + 1 + 1 + 1 := ⟨_, rfl⟩
  replace hM0 := Lib.hid hM0
  have fa0 := KA.out.cell (j := 0) rfl
  have sA : w.heap.size < w0.heap.size := by omega
  go_upto_region 3 with (go_at_call 60; refine (spec_l1OwnPartList _ _ _ (h0.out.ext E.out) (by omega)).mono ?_; rintro e u1 ⟨v1, rfl, ho, he⟩; have fc0 := (KC.out.ext he).cell (j := 0) rfl; have fz := (KC.out.ext he).fz; have HO := Lib.hid ho; have HE := Lib.hid he; clear ho he; obtain ⟨p0, q0, rfl, _⟩ := HO.out.form)
  have OO0 := Lib.hid (Oe.ofS HO.out (L' := w0.heap.size) (Nat.le_refl _) HE.out.sz)
  obtain ⟨M1, hM1⟩ : ∃ M, M = u1.heap.size := ⟨_, rfl⟩
  replace OO0 := Lib.hid (OO0.out.wide (L' := M0) (M' := M1) (by have := hM0.out; omega) (by omega))
  have HSZ : Hid (M1 ≤ (u1).heap.size) := Lib.hid (by rw [hM1]; simp)
  replace hM1 : Hid (w.heap.size + 1 + 1 + 1 ≤ M1) := Lib.hid (by have := HE.out.sz; omega)
  refine abs_world (fun W => Ext w W ∧ w.heap.size + 1 + 1 + 1 ≤ W.heap.size ∧ Bk W w.heap.size [.slice a0 x.Parts.length c0, .slice a1 x.Channels.length c1, .slice a2 x.Slots.length c2] 27 ∧ Bk W (w.heap.size + 1) [.slice none 0 0, .slice none 0 0, .slice none 0 0] 27 ∧ Bk W (w.heap.size + 1 + 1) [.slice p0 x.Parts.length q0, .slice a1 x.Channels.length c1, .slice a2 x.Slots.length c2] 27 ∧ Hid (Oe M0 M1 W [.slice p0 x.Parts.length q0] x.Parts) ∧ M1 ≤ W.heap.size) ⟨(Ext.set (E.out.tr HE.out) (by simp <;> omega) _), Nat.le_trans S (Nat.le_trans HE.out.sz (by simp)), (Bk.set_ne (KA.out.ext HE.out) (by simp <;> omega) _), (Bk.set_ne (KB.out.ext HE.out) (by simp <;> omega) _), (Bk.set (KC.out.ext HE.out) 0 _), Lib.hid (OO0.out.hi (n := w.heap.size + 1 + 1 + 1) (Hi.set (Hi.refl _ _) (by simp <;> omega) _) (by have := hM0.out;  omega)), by have := HSZ.out; simpa using this⟩ ?_
  rintro w1 ⟨E1, S1, KA1, KB1, KC1, OX0, SM⟩
  clear sA HSZ HE HO OO0 KA KB KC E S fz  fa0 fc0
  have E := Lib.hid E1; have KA := Lib.hid KA1; have KB := Lib.hid KB1; have KC := Lib.hid KC1; have S := S1; have O0 := OX0; clear OX0; clear E1 KA1 KB1 KC1 S1
  replace hM1 : Hid (w.heap.size + 1 + 1 + 1 ≤ M1 ∧ M1 ≤ w1.heap.size) := Lib.hid ⟨hM1.out, SM⟩
  clear SM
  have fa1 := KA.out.cell (j := 1) rfl
  have sA : w.heap.size < w1.heap.size := by omega
  go_upto_region 4 with (at_builtin; refine wpl_appF (α := Channel) rfl _ _ 24 rfl 38 Try.underlying24 elChannel (L := w1.heap.size) (v := .slice (some ⟨w1.heap.size, 0, none⟩) 0 0) (xs := []) (ys := x.Channels) rfl (Oa.lit0' _ _ rfl) rfl (h1.out.ext (E.out.alloc _)) (by have := tot_len (xs := x.Channels); simp; omega) (by simp) ?_; intro v1 u1 hO1 hg1; have he := ext_app0 hg1 (Nat.le_refl _); have ho := hO1.osF; clear hO1 hg1; have fc1 := (KC.out.ext he).cell (j := 1) rfl; have fz := (KC.out.ext he).fz; have HO := Lib.hid ho; have HE := Lib.hid he; clear ho he; obtain ⟨p1, q1, rfl, _⟩ := HO.out.form)
  have OO1 := Lib.hid (Oe.ofS HO.out (L' := w1.heap.size) (Nat.le_refl _) HE.out.sz)
  obtain ⟨M2, hM2⟩ : ∃ M, M = u1.heap.size := ⟨_, rfl⟩
  replace OO1 := Lib.hid (OO1.out.wide (L' := M1) (M' := M2) (by have := hM1.out; omega) (by omega))
  have HSZ : Hid (M2 ≤ (u1).heap.size) := Lib.hid (by rw [hM2]; simp)
  replace hM2 : Hid (w.heap.size + 1 + 1 + 1 ≤ M2) := Lib.hid (by have := HE.out.sz; omega)
  refine abs_world (fun W => Ext w W ∧ w.heap.size + 1 + 1 + 1 ≤ W.heap.size ∧ Bk W w.heap.size [.slice a0 x.Parts.length c0, .slice a1 x.Channels.length c1, .slice a2 x.Slots.length c2] 27 ∧ Bk W (w.heap.size + 1) [.slice none 0 0, .slice none 0 0, .slice none 0 0] 27 ∧ Bk W (w.heap.size + 1 + 1) [.slice p0 x.Parts.length q0, .slice p1 x.Channels.length q1, .slice a2 x.Slots.length c2] 27 ∧ Hid (Oe M0 M1 W [.slice p0 x.Parts.length q0] x.Parts) ∧ Hid (Oe M1 M2 W [.slice p1 x.Channels.length q1] x.Channels) ∧ M2 ≤ W.heap.size) ⟨(Ext.set (E.out.tr HE.out) (by simp <;> omega) _), Nat.le_trans S (Nat.le_trans HE.out.sz (by simp)), (Bk.set_ne (KA.out.ext HE.out) (by simp <;> omega) _), (Bk.set_ne (KB.out.ext HE.out) (by simp <;> omega) _), (Bk.set (KC.out.ext HE.out) 1 _), Lib.hid ((O0.out.ext HE.out).hi (n := w.heap.size + 1 + 1 + 1) (Hi.set (Hi.refl _ _) (by simp <;> omega) _) (by have := hM0.out;  omega)), Lib.hid (OO1.out.hi (n := w.heap.size + 1 + 1 + 1) (Hi.set (Hi.refl _ _) (by simp <;> omega) _) (by have := hM0.out; have := hM1.out;  omega)), by have := HSZ.out; simpa using this⟩ ?_
  rintro w2 ⟨E1, S1, KA1, KB1, KC1, OX0, OX1, SM⟩
  clear sA HSZ HE HO OO1 KA KB KC E S fz O0 fa1 fc1
  have E := Lib.hid E1; have KA := Lib.hid KA1; have KB := Lib.hid KB1; have KC := Lib.hid KC1; have S := S1; have O0 := OX0; clear OX0; have O1 := OX1; clear OX1; clear E1 KA1 KB1 KC1 S1
  replace hM2 : Hid (w.heap.size + 1 + 1 + 1 ≤ M2 ∧ M2 ≤ w2.heap.size) := Lib.hid ⟨hM2.out, SM⟩
  clear SM
  have fa2 := KA.out.cell (j := 2) rfl
  have sA : w.heap.size < w2.heap.size := by omega
  go_upto_region 5 with (at_builtin; refine wpl_appF (α := Slot) rfl _ _ 25 rfl 45 Try.underlying25 elSlot (L := w2.heap.size) (v := .slice (some ⟨w2.heap.size, 0, none⟩) 0 0) (xs := []) (ys := x.Slots) rfl (Oa.lit0' _ _ rfl) rfl (h2.out.ext (E.out.alloc _)) (by have := tot_len (xs := x.Slots); simp; omega) (by simp) ?_; intro v1 u1 hO1 hg1; have he := ext_app0 hg1 (Nat.le_refl _); have ho := hO1.osF; clear hO1 hg1; have fc2 := (KC.out.ext he).cell (j := 2) rfl; have fz := (KC.out.ext he).fz; have HO := Lib.hid ho; have HE := Lib.hid he; clear ho he; obtain ⟨p2, q2, rfl, _⟩ := HO.out.form)
  have OO2 := Lib.hid (Oe.ofS HO.out (L' := w2.heap.size) (Nat.le_refl _) HE.out.sz)
  obtain ⟨M3, hM3⟩ : ∃ M, M = u1.heap.size := ⟨_, rfl⟩
  replace OO2 := Lib.hid (OO2.out.wide (L' := M2) (M' := M3) (by have := hM2.out; omega) (by omega))
  have HSZ : Hid (M3 ≤ (u1).heap.size) := Lib.hid (by rw [hM3]; simp)
  replace hM3 : Hid (w.heap.size + 1 + 1 + 1 ≤ M3) := Lib.hid (by have := HE.out.sz; omega)
  refine abs_world (fun W => Ext w W ∧ w.heap.size + 1 + 1 + 1 ≤ W.heap.size ∧ Bk W w.heap.size [.slice a0 x.Parts.length c0, .slice a1 x.Channels.length c1, .slice a2 x.Slots.length c2] 27 ∧ Bk W (w.heap.size + 1) [.slice none 0 0, .slice none 0 0, .slice none 0 0] 27 ∧ Bk W (w.heap.size + 1 + 1) [.slice p0 x.Parts.length q0, .slice p1 x.Channels.length q1, .slice p2 x.Slots.length q2] 27 ∧ Hid (Oe M0 M1 W [.slice p0 x.Parts.length q0] x.Parts) ∧ Hid (Oe M1 M2 W [.slice p1 x.Channels.length q1] x.Channels) ∧ Hid (Oe M2 M3 W [.slice p2 x.Slots.length q2] x.Slots) ∧ M3 ≤ W.heap.size) ⟨(Ext.set (E.out.tr HE.out) (by simp <;> omega) _), Nat.le_trans S (Nat.le_trans HE.out.sz (by simp)), (Bk.set_ne (KA.out.ext HE.out) (by simp <;> omega) _), (Bk.set_ne (KB.out.ext HE.out) (by simp <;> omega) _), (Bk.set (KC.out.ext HE.out) 2 _), Lib.hid ((O0.out.ext HE.out).hi (n := w.heap.size + 1 + 1 + 1) (Hi.set (Hi.refl _ _) (by simp <;> omega) _) (by have := hM0.out;  omega)), Lib.hid ((O1.out.ext HE.out).hi (n := w.heap.size + 1 + 1 + 1) (Hi.set (Hi.refl _ _) (by simp <;> omega) _) (by have := hM0.out; have := hM1.out;  omega)), Lib.hid (OO2.out.hi (n := w.heap.size + 1 + 1 + 1) (Hi.set (Hi.refl _ _) (by simp <;> omega) _) (by have := hM0.out; have := hM1.out; have := hM2.out;  omega)), by have := HSZ.out; simpa using this⟩ ?_
  rintro w3 ⟨E1, S1, KA1, KB1, KC1, OX0, OX1, OX2, SM⟩
  clear sA HSZ HE HO OO2 KA KB KC E S fz O0 O1 fa2 fc2
  have E := Lib.hid E1; have KA := Lib.hid KA1; have KB := Lib.hid KB1; have KC := Lib.hid KC1; have S := S1; have O0 := OX0; clear OX0; have O1 := OX1; clear OX1; have O2 := OX2; clear OX2; clear E1 KA1 KB1 KC1 S1
  replace hM3 : Hid (w.heap.size + 1 + 1 + 1 ≤ M3 ∧ M3 ≤ w3.heap.size) := Lib.hid ⟨hM3.out, SM⟩
  clear SM
  have fc0 := KC.out.cell (j := 0) rfl
  have fc1 := KC.out.cell (j := 1) rfl
  have fc2 := KC.out.cell (j := 2) rfl
  have fb0 := KB.out.cell (j := 0) rfl
  have fb1 := KB.out.cell (j := 1) rfl
  have fb2 := KB.out.cell (j := 2) rfl
  have fzb := KB.out.fz
  go_wp2
  refine bodyPost_ret (v := .agg #[.slice p0 x.Parts.length q0, .slice p1 x.Channels.length q1, .slice p2 x.Slots.length q2]) (by simp [results, Try.results29, go_sem, fb0, fb1, fb2]) rfl ⟨_, rfl, ?_, ?_⟩
  · have hh : ∀ {W : World}, Hi (w.heap.size + 1 + 1 + 1) w3 W → Ov (w.heap.size + 1 + 1 + 1) W (.agg #[.slice p0 x.Parts.length q0, .slice p1 x.Channels.length q1, .slice p2 x.Slots.length q2]) x := fun hW =>
      (Oe.mkSetup (O0.out.hi hW (by have := hM0.out;  omega)) (O1.out.hi hW (by have := hM0.out; have := hM1.out;  omega)) (O2.out.hi hW (by have := hM0.out; have := hM1.out; have := hM2.out;  omega))).ov.mono (by have := hM0.out; omega)
    exact (hh ((Hi.set (Hi.set (Hi.set (Hi.refl _ _) (by simp <;> omega) _) (by simp <;> omega) _) (by simp <;> omega) _))).mono (by omega)
  · exact (Ext.set (Ext.set (Ext.set E.out (by simp <;> omega) _) (by simp <;> omega) _) (by simp <;> omega) _)
end Sk

