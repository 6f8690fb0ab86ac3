/- Contracts of functions of the given program, each under the condition that it states. -/
import Derived.Test.YtfokgfocnacocaaGreatChecked
import Derived.Lib.SliceRun
import Derived.Test.YtfokgfocnacocaaGreatApp
import Derived.Test.YtfokgfocnacocaaGreatChan
namespace Sk
open Go Go.Proofs Go.RowKit
set_option maxHeartbeats 400000
set_option maxRecDepth 100000
set_option linter.unusedVariables false
set_option linter.unusedSimpArgs false
def Oh {α : Type} [GT α] (L : Nat) (w : World) (v : Value) (xs : List α) (F : List Nat) : Prop :=
 (v = .slice none 0 0 ∧ xs = [] ∧ F = []) ∨ ∃ g, v = .slice (some ⟨g, 0, none⟩) xs.length xs.length ∧ L ≤ g ∧ Fz w g ∧ xs.length ≤ maxLen ∧ Row w g 0 xs F ∧ g ∉ F
theorem Oa.oh {α : Type} [GT α] {e : TypeId} {L : Nat} {w : World} {a : Option Addr} {n c : Nat} {xs : List α} {F : List Nat} (h : Oa e L w (.slice a n c) xs F) : Oh L w (.slice a n n) xs F := by
 rcases h with ⟨h, rfl, rfl⟩ | ⟨g, cap, cur, h, hL, hg, hl, hc, hs, hr, hn⟩
 ·cases h; exact .inl ⟨rfl, rfl, rfl⟩
 ·cases h; exact .inr ⟨g, rfl, hL, ⟨_, _, Bk.ofA hg⟩, Nat.le_trans hl hc, hr, hn⟩
theorem Oh.os {α : Type} [GT α] {L : Nat} {w : World} {v : Value} {xs : List α} (h : Oh L w v xs []) : Os L w v xs := by
 rcases h with ⟨rfl, rfl, _⟩ | ⟨g, rfl, hL, hz, hl, hr, _⟩
 ·exact ⟨[], ⟨none, 0, rfl, Nat.le_refl _, Nat.zero_le _, .inl ⟨rfl, rfl⟩⟩, Own.nil _ _⟩
 ·by_cases hx : xs = []
  ·subst hx; exact ⟨[], ⟨some ⟨g, 0, none⟩, 0, rfl, Nat.le_refl _, Nat.zero_le _, .inl ⟨rfl, rfl⟩⟩, Own.nil _ _⟩
  ·exact ⟨[g], ⟨_, _, rfl, Nat.le_refl _, hl, .inr ⟨hx, g, 0, [], rfl, rfl, hr⟩⟩, by simp, fun b hb => by rw [List.mem_singleton] at hb; subst hb; exact ⟨hL, hz⟩⟩
theorem slices_Clone_Int (v : Value) (xs : List Int) (w : World) (F : List Nat) (h : Sl w v xs F) (hn : xs.length ≤ 100000000) :
  Calls Tryz.prog 106 #[v] w fun e w' => ∃ v' F', e = .returned v' ∧ Oa 3 w.heap.size w' v' xs F' ∧ (∀ b ∈ F', b ∈ F) ∧ F'.Sublist F ∧ Ext w w' := by
 have hnil : ∀ (a : Option Addr) (n c : Nat), (binOp .eql 39 (.slice a n c) (.slice none 0 0)).run Tryz.prog w = .ok (.bool a.isNone) w := fun a n c => Go.Lib.run_eql_slice_nil w 39 3 a n c 0 0 Tryz.underlying39
 obtain ⟨a, c, rfl, hl, hc, ⟨rfl, rfl⟩ | ⟨hne, b, o, F', rfl, rfl, hr⟩⟩ := h
 ·cases a with
  | none =>
   go_enter Tryz.func106, Tryz.ntmps106
   go_wp2
   go_ret
   exact ⟨_, [], rfl, Oa.nil _ _ _, by simp, by simp, Ext.refl _⟩
  | some p =>
   go_enter Tryz.func106, Tryz.ntmps106
   go_wp2
   go_ret
   exact ⟨_, [], rfl, Oa.lit0 _ _, by simp, by simp, (Ext.refl _).alloc _⟩
 ·have hpos : 0 < xs.length := List.length_pos_iff.2 hne
  have HR : Hid (∀ ob, Row (w.alloc ob) b o xs F') := zh (fun ob => hr.keep (((Ext.refl w).alloc ob).block b (hr.lt hne)) (fun k hk => ((Ext.refl w).alloc ob).block k (hr.inh k hk)))
  have HI : Hid (∀ k ∈ F', k < w.heap.size) := zh hr.inh
  clear hr
  go_enter Tryz.func106, Tryz.ntmps106
  go_wp2_with (at_builtin; refine wpl_app (α := Int) rfl _ _ 39 rfl 3 Tryz.underlying39 elInt (L := w.heap.size) (v := .slice (some ⟨w.heap.size, 0, none⟩) 0 0) (xs := []) (ys := xs) rfl (Oa.lit0 _ _) rfl rfl (HR.out _) (by omega) (fun k hk e => by cases e; exact absurd (HI.out _ hk) (Nat.lt_irrefl _)) (by simp; omega) (by simp) ?_; intro v' w' hO' hgr; have HO2 := zh hO'; have HQ2 := zh (Ext.grown ((Ext.refl w).alloc _) hgr (fun k hk => by cases hk; exact Nat.le_refl _)); clear hO' hgr; obtain ⟨ao2, co2, rfl, _⟩ := HO2.out.form)
  go_ret
  exact ⟨_, F', rfl, by simpa using HO2.out, fun b hb => by simp [hb], List.sublist_cons_self _ _, HQ2.out⟩
theorem impl_clone_Int (v : Value) (xs : List Int) (w : World) (F : List Nat) (h : Sl w v xs F) (hn : xs.length ≤ 100000000) :
  Calls Tryz.prog 59 #[v] w fun e w' => ∃ v' F', e = .returned v' ∧ Oh w.heap.size w' v' xs F' ∧ (∀ b ∈ F', b ∈ F) ∧ F'.Sublist F ∧ Ext w w' := by
 obtain ⟨a, c, rfl, hl⟩ := Rs.form ⟨F, h⟩
 have H := zh h
 clear h
 go_enter Tryz.func59, Tryz.ntmps59
 go_wp2_with fail
 refine (slices_Clone_Int _ _ _ _ H.out hn).mono ?_
 rintro e w1 ⟨v1, F1, rfl, ho, hF, hsub, he⟩
 obtain ⟨a1, c1, rfl, _⟩ := ho.form
 have hcp := ho.cap
 have HO := zh ho.oh
 have HX := zh (And.intro hF (And.intro hsub he))
 clear ho hF hsub he
 go_wp2_with fail
 refine (slices_Clip_int _ xs _ _ _ rfl hcp.1 hcp.2).mono ?_
 rintro e w2 ⟨rfl, rfl⟩
 go_wp2
 go_ret
 exact ⟨_, F1, rfl, HO.out, HX.out⟩
theorem elWindow : El Tryz.prog 79 Window := El.of (z := .agg #[.int .i64 0, .int .i64 0, .bool false]) (n := 3) (b := 24) (by kernel_rfl) rfl rfl (by decide)
theorem slices_Clone_Window (v : Value) (xs : List Window) (w : World) (F : List Nat) (h : Sl w v xs F) (hn : xs.length ≤ 100000000) :
  Calls Tryz.prog 129 #[v] w fun e w' => ∃ v' F', e = .returned v' ∧ Oa 79 w.heap.size w' v' xs F' ∧ (∀ b ∈ F', b ∈ F) ∧ F'.Sublist F ∧ Ext w w' := by
 have hnil : ∀ (a : Option Addr) (n c : Nat), (binOp .eql 70 (.slice a n c) (.slice none 0 0)).run Tryz.prog w = .ok (.bool a.isNone) w := fun a n c => Go.Lib.run_eql_slice_nil w 70 79 a n c 0 0 Tryz.underlying70
 obtain ⟨a, c, rfl, hl, hc, ⟨rfl, rfl⟩ | ⟨hne, b, o, F', rfl, rfl, hr⟩⟩ := h
 ·cases a with
  | none =>
   go_enter Tryz.func129, Tryz.ntmps129
   go_wp2
   go_ret
   exact ⟨_, [], rfl, Oa.nil _ _ _, by simp, by simp, Ext.refl _⟩
  | some p =>
   go_enter Tryz.func129, Tryz.ntmps129
   go_wp2
   go_ret
   exact ⟨_, [], rfl, Oa.lit0 _ _, by simp, by simp, (Ext.refl _).alloc _⟩
 ·have hpos : 0 < xs.length := List.length_pos_iff.2 hne
  have HR : Hid (∀ ob, Row (w.alloc ob) b o xs F') := zh (fun ob => hr.keep (((Ext.refl w).alloc ob).block b (hr.lt hne)) (fun k hk => ((Ext.refl w).alloc ob).block k (hr.inh k hk)))
  have HI : Hid (∀ k ∈ F', k < w.heap.size) := zh hr.inh
  clear hr
  go_enter Tryz.func129, Tryz.ntmps129
  go_wp2_with (at_builtin; refine wpl_app (α := Window) rfl _ _ 70 rfl 79 Tryz.underlying70 elWindow (L := w.heap.size) (v := .slice (some ⟨w.heap.size, 0, none⟩) 0 0) (xs := []) (ys := xs) rfl (Oa.lit0 _ _) rfl rfl (HR.out _) (by omega) (fun k hk e => by cases e; exact absurd (HI.out _ hk) (Nat.lt_irrefl _)) (by simp; omega) (by simp) ?_; intro v' w' hO' hgr; have HO2 := zh hO'; have HQ2 := zh (Ext.grown ((Ext.refl w).alloc _) hgr (fun k hk => by cases hk; exact Nat.le_refl _)); clear hO' hgr; obtain ⟨ao2, co2, rfl, _⟩ := HO2.out.form)
  go_ret
  exact ⟨_, F', rfl, by simpa using HO2.out, fun b hb => by simp [hb], List.sublist_cons_self _ _, HQ2.out⟩
theorem slices_Clip_Window (n c : Nat) (w : World) (a : Option Addr) (hc : n ≤ c) (hl : c ≤ 9223372036854775807) :
  Calls Tryz.prog 128 #[.slice a n c] w fun e w' => e = .returned (.slice a n n) ∧ w = w' := by
 go_enter Tryz.func128, Tryz.ntmps128
 go_wp2
 go_ret
 exact ⟨rfl, rfl⟩
theorem impl_clone_Window (v : Value) (xs : List Window) (w : World) (F : List Nat) (h : Sl w v xs F) (hn : xs.length ≤ 100000000) :
  Calls Tryz.prog 96 #[v] w fun e w' => ∃ v' F', e = .returned v' ∧ Oh w.heap.size w' v' xs F' ∧ (∀ b ∈ F', b ∈ F) ∧ F'.Sublist F ∧ Ext w w' := by
 obtain ⟨a, c, rfl, hl⟩ := Rs.form ⟨F, h⟩
 have H := zh h
 clear h
 go_enter Tryz.func96, Tryz.ntmps96
 go_wp2_with fail
 refine (slices_Clone_Window _ _ _ _ H.out hn).mono ?_
 rintro e w1 ⟨v1, F1, rfl, ho, hF, hsub, he⟩
 obtain ⟨a1, c1, rfl, _⟩ := ho.form
 have hcp := ho.cap
 have HO := zh ho.oh
 have HX := zh (And.intro hF (And.intro hsub he))
 clear ho hF hsub he
 go_wp2_with fail
 refine (slices_Clip_Window _ _ _ _ hcp.1 hcp.2).mono ?_
 rintro e w2 ⟨rfl, rfl⟩
 go_wp2
 go_ret
 exact ⟨_, F1, rfl, HO.out, HX.out⟩
theorem elPart : El Tryz.prog 72 Part := El.of (z := .agg #[.slice none 0 0, .int .i64 0]) (n := 2) (b := 32) (by kernel_rfl) rfl rfl (by decide)
theorem slices_Clone_Part (v : Value) (xs : List Part) (w : World) (F : List Nat) (h : Sl w v xs F) (hn : xs.length ≤ 100000000) :
  Calls Tryz.prog 123 #[v] w fun e w' => ∃ v' F', e = .returned v' ∧ Oa 72 w.heap.size w' v' xs F' ∧ (∀ b ∈ F', b ∈ F) ∧ F'.Sublist F ∧ Ext w w' := by
 have hnil : ∀ (a : Option Addr) (n c : Nat), (binOp .eql 23 (.slice a n c) (.slice none 0 0)).run Tryz.prog w = .ok (.bool a.isNone) w := fun a n c => Go.Lib.run_eql_slice_nil w 23 72 a n c 0 0 Tryz.underlying23
 obtain ⟨a, c, rfl, hl, hc, ⟨rfl, rfl⟩ | ⟨hne, b, o, F', rfl, rfl, hr⟩⟩ := h
 ·cases a with
  | none =>
   go_enter Tryz.func123, Tryz.ntmps123
   go_wp2
   go_ret
   exact ⟨_, [], rfl, Oa.nil _ _ _, by simp, by simp, Ext.refl _⟩
  | some p =>
   go_enter Tryz.func123, Tryz.ntmps123
   go_wp2
   go_ret
   exact ⟨_, [], rfl, Oa.lit0 _ _, by simp, by simp, (Ext.refl _).alloc _⟩
 ·have hpos : 0 < xs.length := List.length_pos_iff.2 hne
  have HR : Hid (∀ ob, Row (w.alloc ob) b o xs F') := zh (fun ob => hr.keep (((Ext.refl w).alloc ob).block b (hr.lt hne)) (fun k hk => ((Ext.refl w).alloc ob).block k (hr.inh k hk)))
  have HI : Hid (∀ k ∈ F', k < w.heap.size) := zh hr.inh
  clear hr
  go_enter Tryz.func123, Tryz.ntmps123
  go_wp2_with (at_builtin; refine wpl_app (α := Part) rfl _ _ 23 rfl 72 Tryz.underlying23 elPart (L := w.heap.size) (v := .slice (some ⟨w.heap.size, 0, none⟩) 0 0) (xs := []) (ys := xs) rfl (Oa.lit0 _ _) rfl rfl (HR.out _) (by omega) (fun k hk e => by cases e; exact absurd (HI.out _ hk) (Nat.lt_irrefl _)) (by simp; omega) (by simp) ?_; intro v' w' hO' hgr; have HO2 := zh hO'; have HQ2 := zh (Ext.grown ((Ext.refl w).alloc _) hgr (fun k hk => by cases hk; exact Nat.le_refl _)); clear hO' hgr; obtain ⟨ao2, co2, rfl, _⟩ := HO2.out.form)
  go_ret
  exact ⟨_, F', rfl, by simpa using HO2.out, fun b hb => by simp [hb], List.sublist_cons_self _ _, HQ2.out⟩
theorem slices_Clip_Part (n c : Nat) (w : World) (a : Option Addr) (hc : n ≤ c) (hl : c ≤ 9223372036854775807) :
  Calls Tryz.prog 122 #[.slice a n c] w fun e w' => e = .returned (.slice a n n) ∧ w = w' := by
 go_enter Tryz.func122, Tryz.ntmps122
 go_wp2
 go_ret
 exact ⟨rfl, rfl⟩
theorem impl_clone_Part (v : Value) (xs : List Part) (w : World) (F : List Nat) (h : Sl w v xs F) (hn : xs.length ≤ 100000000) :
  Calls Tryz.prog 93 #[v] w fun e w' => ∃ v' F', e = .returned v' ∧ Oh w.heap.size w' v' xs F' ∧ (∀ b ∈ F', b ∈ F) ∧ F'.Sublist F ∧ Ext w w' := by
 obtain ⟨a, c, rfl, hl⟩ := Rs.form ⟨F, h⟩
 have H := zh h
 clear h
 go_enter Tryz.func93, Tryz.ntmps93
 go_wp2_with fail
 refine (slices_Clone_Part _ _ _ _ H.out hn).mono ?_
 rintro e w1 ⟨v1, F1, rfl, ho, hF, hsub, he⟩
 obtain ⟨a1, c1, rfl, _⟩ := ho.form
 have hcp := ho.cap
 have HO := zh ho.oh
 have HX := zh (And.intro hF (And.intro hsub he))
 clear ho hF hsub he
 go_wp2_with fail
 refine (slices_Clip_Part _ _ _ _ hcp.1 hcp.2).mono ?_
 rintro e w2 ⟨rfl, rfl⟩
 go_wp2
 go_ret
 exact ⟨_, F1, rfl, HO.out, HX.out⟩
theorem elChannel : El Tryz.prog 43 Channel := El.of (z := .agg #[.int .i64 0, .int .i64 0, .int .i64 0, .int .i64 0]) (n := 4) (b := 32) (by kernel_rfl) rfl rfl (by decide)
theorem slices_Clone_Channel (v : Value) (xs : List Channel) (w : World) (F : List Nat) (h : Sl w v xs F) (hn : xs.length ≤ 100000000) :
  Calls Tryz.prog 125 #[v] w fun e w' => ∃ v' F', e = .returned v' ∧ Oa 43 w.heap.size w' v' xs F' ∧ (∀ b ∈ F', b ∈ F) ∧ F'.Sublist F ∧ Ext w w' := by
 have hnil : ∀ (a : Option Addr) (n c : Nat), (binOp .eql 24 (.slice a n c) (.slice none 0 0)).run Tryz.prog w = .ok (.bool a.isNone) w := fun a n c => Go.Lib.run_eql_slice_nil w 24 43 a n c 0 0 Tryz.underlying24
 obtain ⟨a, c, rfl, hl, hc, ⟨rfl, rfl⟩ | ⟨hne, b, o, F', rfl, rfl, hr⟩⟩ := h
 ·cases a with
  | none =>
   go_enter Tryz.func125, Tryz.ntmps125
   go_wp2
   go_ret
   exact ⟨_, [], rfl, Oa.nil _ _ _, by simp, by simp, Ext.refl _⟩
  | some p =>
   go_enter Tryz.func125, Tryz.ntmps125
   go_wp2
   go_ret
   exact ⟨_, [], rfl, Oa.lit0 _ _, by simp, by simp, (Ext.refl _).alloc _⟩
 ·have hpos : 0 < xs.length := List.length_pos_iff.2 hne
  have HR : Hid (∀ ob, Row (w.alloc ob) b o xs F') := zh (fun ob => hr.keep (((Ext.refl w).alloc ob).block b (hr.lt hne)) (fun k hk => ((Ext.refl w).alloc ob).block k (hr.inh k hk)))
  have HI : Hid (∀ k ∈ F', k < w.heap.size) := zh hr.inh
  clear hr
  go_enter Tryz.func125, Tryz.ntmps125
  go_wp2_with (at_builtin; refine wpl_app (α := Channel) rfl _ _ 24 rfl 43 Tryz.underlying24 elChannel (L := w.heap.size) (v := .slice (some ⟨w.heap.size, 0, none⟩) 0 0) (xs := []) (ys := xs) rfl (Oa.lit0 _ _) rfl rfl (HR.out _) (by omega) (fun k hk e => by cases e; exact absurd (HI.out _ hk) (Nat.lt_irrefl _)) (by simp; omega) (by simp) ?_; intro v' w' hO' hgr; have HO2 := zh hO'; have HQ2 := zh (Ext.grown ((Ext.refl w).alloc _) hgr (fun k hk => by cases hk; exact Nat.le_refl _)); clear hO' hgr; obtain ⟨ao2, co2, rfl, _⟩ := HO2.out.form)
  go_ret
  exact ⟨_, F', rfl, by simpa using HO2.out, fun b hb => by simp [hb], List.sublist_cons_self _ _, HQ2.out⟩
theorem slices_Clip_Channel (n c : Nat) (w : World) (a : Option Addr) (hc : n ≤ c) (hl : c ≤ 9223372036854775807) :
  Calls Tryz.prog 124 #[.slice a n c] w fun e w' => e = .returned (.slice a n n) ∧ w = w' := by
 go_enter Tryz.func124, Tryz.ntmps124
 go_wp2
 go_ret
 exact ⟨rfl, rfl⟩
theorem impl_clone_Channel (v : Value) (xs : List Channel) (w : World) (F : List Nat) (h : Sl w v xs F) (hn : xs.length ≤ 100000000) :
  Calls Tryz.prog 94 #[v] w fun e w' => ∃ v' F', e = .returned v' ∧ Oh w.heap.size w' v' xs F' ∧ (∀ b ∈ F', b ∈ F) ∧ F'.Sublist F ∧ Ext w w' := by
 obtain ⟨a, c, rfl, hl⟩ := Rs.form ⟨F, h⟩
 have H := zh h
 clear h
 go_enter Tryz.func94, Tryz.ntmps94
 go_wp2_with fail
 refine (slices_Clone_Channel _ _ _ _ H.out hn).mono ?_
 rintro e w1 ⟨v1, F1, rfl, ho, hF, hsub, he⟩
 obtain ⟨a1, c1, rfl, _⟩ := ho.form
 have hcp := ho.cap
 have HO := zh ho.oh
 have HX := zh (And.intro hF (And.intro hsub he))
 clear ho hF hsub he
 go_wp2_with fail
 refine (slices_Clip_Channel _ _ _ _ hcp.1 hcp.2).mono ?_
 rintro e w2 ⟨rfl, rfl⟩
 go_wp2
 go_ret
 exact ⟨_, F1, rfl, HO.out, HX.out⟩
theorem elSlot : El Tryz.prog 112 Slot := El.of (z := .agg #[.int .i64 0, .int .i64 0]) (n := 2) (b := 16) (by kernel_rfl) rfl rfl (by decide)
theorem slices_Clone_Slot (v : Value) (xs : List Slot) (w : World) (F : List Nat) (h : Sl w v xs F) (hn : xs.length ≤ 100000000) :
  Calls Tryz.prog 127 #[v] w fun e w' => ∃ v' F', e = .returned v' ∧ Oa 112 w.heap.size w' v' xs F' ∧ (∀ b ∈ F', b ∈ F) ∧ F'.Sublist F ∧ Ext w w' := by
 have hnil : ∀ (a : Option Addr) (n c : Nat), (binOp .eql 25 (.slice a n c) (.slice none 0 0)).run Tryz.prog w = .ok (.bool a.isNone) w := fun a n c => Go.Lib.run_eql_slice_nil w 25 112 a n c 0 0 Tryz.underlying25
 obtain ⟨a, c, rfl, hl, hc, ⟨rfl, rfl⟩ | ⟨hne, b, o, F', rfl, rfl, hr⟩⟩ := h
 ·cases a with
  | none =>
   go_enter Tryz.func127, Tryz.ntmps127
   go_wp2
   go_ret
   exact ⟨_, [], rfl, Oa.nil _ _ _, by simp, by simp, Ext.refl _⟩
  | some p =>
   go_enter Tryz.func127, Tryz.ntmps127
   go_wp2
   go_ret
   exact ⟨_, [], rfl, Oa.lit0 _ _, by simp, by simp, (Ext.refl _).alloc _⟩
 ·have hpos : 0 < xs.length := List.length_pos_iff.2 hne
  have HR : Hid (∀ ob, Row (w.alloc ob) b o xs F') := zh (fun ob => hr.keep (((Ext.refl w).alloc ob).block b (hr.lt hne)) (fun k hk => ((Ext.refl w).alloc ob).block k (hr.inh k hk)))
  have HI : Hid (∀ k ∈ F', k < w.heap.size) := zh hr.inh
  clear hr
  go_enter Tryz.func127, Tryz.ntmps127
  go_wp2_with (at_builtin; refine wpl_app (α := Slot) rfl _ _ 25 rfl 112 Tryz.underlying25 elSlot (L := w.heap.size) (v := .slice (some ⟨w.heap.size, 0, none⟩) 0 0) (xs := []) (ys := xs) rfl (Oa.lit0 _ _) rfl rfl (HR.out _) (by omega) (fun k hk e => by cases e; exact absurd (HI.out _ hk) (Nat.lt_irrefl _)) (by simp; omega) (by simp) ?_; intro v' w' hO' hgr; have HO2 := zh hO'; have HQ2 := zh (Ext.grown ((Ext.refl w).alloc _) hgr (fun k hk => by cases hk; exact Nat.le_refl _)); clear hO' hgr; obtain ⟨ao2, co2, rfl, _⟩ := HO2.out.form)
  go_ret
  exact ⟨_, F', rfl, by simpa using HO2.out, fun b hb => by simp [hb], List.sublist_cons_self _ _, HQ2.out⟩
theorem slices_Clip_Slot (n c : Nat) (w : World) (a : Option Addr) (hc : n ≤ c) (hl : c ≤ 9223372036854775807) :
  Calls Tryz.prog 126 #[.slice a n c] w fun e w' => e = .returned (.slice a n n) ∧ w = w' := by
 go_enter Tryz.func126, Tryz.ntmps126
 go_wp2
 go_ret
 exact ⟨rfl, rfl⟩
theorem impl_clone_Slot (v : Value) (xs : List Slot) (w : World) (F : List Nat) (h : Sl w v xs F) (hn : xs.length ≤ 100000000) :
  Calls Tryz.prog 95 #[v] w fun e w' => ∃ v' F', e = .returned v' ∧ Oh w.heap.size w' v' xs F' ∧ (∀ b ∈ F', b ∈ F) ∧ F'.Sublist F ∧ Ext w w' := by
 obtain ⟨a, c, rfl, hl⟩ := Rs.form ⟨F, h⟩
 have H := zh h
 clear h
 go_enter Tryz.func95, Tryz.ntmps95
 go_wp2_with fail
 refine (slices_Clone_Slot _ _ _ _ H.out hn).mono ?_
 rintro e w1 ⟨v1, F1, rfl, ho, hF, hsub, he⟩
 obtain ⟨a1, c1, rfl, _⟩ := ho.form
 have hcp := ho.cap
 have HO := zh ho.oh
 have HX := zh (And.intro hF (And.intro hsub he))
 clear ho hF hsub he
 go_wp2_with fail
 refine (slices_Clip_Slot _ _ _ _ hcp.1 hcp.2).mono ?_
 rintro e w2 ⟨rfl, rfl⟩
 go_wp2
 go_ret
 exact ⟨_, F1, rfl, HO.out, HX.out⟩
theorem elOrder : El Tryz.prog 67 Order := El.of (z := .agg #[.int .i64 0, .int .i64 0, .int .i64 0]) (n := 3) (b := 24) (by kernel_rfl) rfl rfl (by decide)
theorem slices_Clone_Order (v : Value) (xs : List Order) (w : World) (F : List Nat) (h : Sl w v xs F) (hn : xs.length ≤ 100000000) :
  Calls Tryz.prog 104 #[v] w fun e w' => ∃ v' F', e = .returned v' ∧ Oa 67 w.heap.size w' v' xs F' ∧ (∀ b ∈ F', b ∈ F) ∧ F'.Sublist F ∧ Ext w w' := by
 have hnil : ∀ (a : Option Addr) (n c : Nat), (binOp .eql 65 (.slice a n c) (.slice none 0 0)).run Tryz.prog w = .ok (.bool a.isNone) w := fun a n c => Go.Lib.run_eql_slice_nil w 65 67 a n c 0 0 Tryz.underlying65
 obtain ⟨a, c, rfl, hl, hc, ⟨rfl, rfl⟩ | ⟨hne, b, o, F', rfl, rfl, hr⟩⟩ := h
 ·cases a with
  | none =>
   go_enter Tryz.func104, Tryz.ntmps104
   go_wp2
   go_ret
   exact ⟨_, [], rfl, Oa.nil _ _ _, by simp, by simp, Ext.refl _⟩
  | some p =>
   go_enter Tryz.func104, Tryz.ntmps104
   go_wp2
   go_ret
   exact ⟨_, [], rfl, Oa.lit0 _ _, by simp, by simp, (Ext.refl _).alloc _⟩
 ·have hpos : 0 < xs.length := List.length_pos_iff.2 hne
  have HR : Hid (∀ ob, Row (w.alloc ob) b o xs F') := zh (fun ob => hr.keep (((Ext.refl w).alloc ob).block b (hr.lt hne)) (fun k hk => ((Ext.refl w).alloc ob).block k (hr.inh k hk)))
  have HI : Hid (∀ k ∈ F', k < w.heap.size) := zh hr.inh
  clear hr
  go_enter Tryz.func104, Tryz.ntmps104
  go_wp2_with (at_builtin; refine wpl_app (α := Order) rfl _ _ 65 rfl 67 Tryz.underlying65 elOrder (L := w.heap.size) (v := .slice (some ⟨w.heap.size, 0, none⟩) 0 0) (xs := []) (ys := xs) rfl (Oa.lit0 _ _) rfl rfl (HR.out _) (by omega) (fun k hk e => by cases e; exact absurd (HI.out _ hk) (Nat.lt_irrefl _)) (by simp; omega) (by simp) ?_; intro v' w' hO' hgr; have HO2 := zh hO'; have HQ2 := zh (Ext.grown ((Ext.refl w).alloc _) hgr (fun k hk => by cases hk; exact Nat.le_refl _)); clear hO' hgr; obtain ⟨ao2, co2, rfl, _⟩ := HO2.out.form)
  go_ret
  exact ⟨_, F', rfl, by simpa using HO2.out, fun b hb => by simp [hb], List.sublist_cons_self _ _, HQ2.out⟩
theorem slices_Clip_Order (n c : Nat) (w : World) (a : Option Addr) (hc : n ≤ c) (hl : c ≤ 9223372036854775807) :
  Calls Tryz.prog 103 #[.slice a n c] w fun e w' => e = .returned (.slice a n n) ∧ w = w' := by
 go_enter Tryz.func103, Tryz.ntmps103
 go_wp2
 go_ret
 exact ⟨rfl, rfl⟩
theorem impl_clone_Order (v : Value) (xs : List Order) (w : World) (F : List Nat) (h : Sl w v xs F) (hn : xs.length ≤ 100000000) :
  Calls Tryz.prog 57 #[v] w fun e w' => ∃ v' F', e = .returned v' ∧ Oh w.heap.size w' v' xs F' ∧ (∀ b ∈ F', b ∈ F) ∧ F'.Sublist F ∧ Ext w w' := by
 obtain ⟨a, c, rfl, hl⟩ := Rs.form ⟨F, h⟩
 have H := zh h
 clear h
 go_enter Tryz.func57, Tryz.ntmps57
 go_wp2_with fail
 refine (slices_Clone_Order _ _ _ _ H.out hn).mono ?_
 rintro e w1 ⟨v1, F1, rfl, ho, hF, hsub, he⟩
 obtain ⟨a1, c1, rfl, _⟩ := ho.form
 have hcp := ho.cap
 have HO := zh ho.oh
 have HX := zh (And.intro hF (And.intro hsub he))
 clear ho hF hsub he
 go_wp2_with fail
 refine (slices_Clip_Order _ _ _ _ hcp.1 hcp.2).mono ?_
 rintro e w2 ⟨rfl, rfl⟩
 go_wp2
 go_ret
 exact ⟨_, F1, rfl, HO.out, HX.out⟩
theorem elOrderS : El Tryz.prog 65 (List Order) := El.of (z := .slice none 0 0) (n := 1) (b := 24) (by kernel_rfl) rfl rfl (by decide)
theorem slices_Clone_OrderS (v : Value) (xs : List (List Order)) (w : World) (F : List Nat) (h : Sl w v xs F) (hn : xs.length ≤ 100000000) :
  Calls Tryz.prog 98 #[v] w fun e w' => ∃ v' F', e = .returned v' ∧ Oa 65 w.heap.size w' v' xs F' ∧ (∀ b ∈ F', b ∈ F) ∧ F'.Sublist F ∧ Ext w w' := by
 have hnil : ∀ (a : Option Addr) (n c : Nat), (binOp .eql 28 (.slice a n c) (.slice none 0 0)).run Tryz.prog w = .ok (.bool a.isNone) w := fun a n c => Go.Lib.run_eql_slice_nil w 28 65 a n c 0 0 Tryz.underlying28
 obtain ⟨a, c, rfl, hl, hc, ⟨rfl, rfl⟩ | ⟨hne, b, o, F', rfl, rfl, hr⟩⟩ := h
 ·cases a with
  | none =>
   go_enter Tryz.func98, Tryz.ntmps98
   go_wp2
   go_ret
   exact ⟨_, [], rfl, Oa.nil _ _ _, by simp, by simp, Ext.refl _⟩
  | some p =>
   go_enter Tryz.func98, Tryz.ntmps98
   go_wp2
   go_ret
   exact ⟨_, [], rfl, Oa.lit0 _ _, by simp, by simp, (Ext.refl _).alloc _⟩
 ·have hpos : 0 < xs.length := List.length_pos_iff.2 hne
  have HR : Hid (∀ ob, Row (w.alloc ob) b o xs F') := zh (fun ob => hr.keep (((Ext.refl w).alloc ob).block b (hr.lt hne)) (fun k hk => ((Ext.refl w).alloc ob).block k (hr.inh k hk)))
  have HI : Hid (∀ k ∈ F', k < w.heap.size) := zh hr.inh
  clear hr
  go_enter Tryz.func98, Tryz.ntmps98
  go_wp2_with (at_builtin; refine wpl_app (α := (List Order)) rfl _ _ 28 rfl 65 Tryz.underlying28 elOrderS (L := w.heap.size) (v := .slice (some ⟨w.heap.size, 0, none⟩) 0 0) (xs := []) (ys := xs) rfl (Oa.lit0 _ _) rfl rfl (HR.out _) (by omega) (fun k hk e => by cases e; exact absurd (HI.out _ hk) (Nat.lt_irrefl _)) (by simp; omega) (by simp) ?_; intro v' w' hO' hgr; have HO2 := zh hO'; have HQ2 := zh (Ext.grown ((Ext.refl w).alloc _) hgr (fun k hk => by cases hk; exact Nat.le_refl _)); clear hO' hgr; obtain ⟨ao2, co2, rfl, _⟩ := HO2.out.form)
  go_ret
  exact ⟨_, F', rfl, by simpa using HO2.out, fun b hb => by simp [hb], List.sublist_cons_self _ _, HQ2.out⟩
theorem slices_Clip_OrderS (n c : Nat) (w : World) (a : Option Addr) (hc : n ≤ c) (hl : c ≤ 9223372036854775807) :
  Calls Tryz.prog 97 #[.slice a n c] w fun e w' => e = .returned (.slice a n n) ∧ w = w' := by
 go_enter Tryz.func97, Tryz.ntmps97
 go_wp2
 go_ret
 exact ⟨rfl, rfl⟩
theorem impl_clone_OrderS (v : Value) (xs : List (List Order)) (w : World) (F : List Nat) (h : Sl w v xs F) (hn : xs.length ≤ 100000000) :
  Calls Tryz.prog 54 #[v] w fun e w' => ∃ v' F', e = .returned v' ∧ Oh w.heap.size w' v' xs F' ∧ (∀ b ∈ F', b ∈ F) ∧ F'.Sublist F ∧ Ext w w' := by
 obtain ⟨a, c, rfl, hl⟩ := Rs.form ⟨F, h⟩
 have H := zh h
 clear h
 go_enter Tryz.func54, Tryz.ntmps54
 go_wp2_with fail
 refine (slices_Clone_OrderS _ _ _ _ H.out hn).mono ?_
 rintro e w1 ⟨v1, F1, rfl, ho, hF, hsub, he⟩
 obtain ⟨a1, c1, rfl, _⟩ := ho.form
 have hcp := ho.cap
 have HO := zh ho.oh
 have HX := zh (And.intro hF (And.intro hsub he))
 clear ho hF hsub he
 go_wp2_with fail
 refine (slices_Clip_OrderS _ _ _ _ hcp.1 hcp.2).mono ?_
 rintro e w2 ⟨rfl, rfl⟩
 go_wp2
 go_ret
 exact ⟨_, F1, rfl, HO.out, HX.out⟩
theorem elCore : El Tryz.prog 41 Core := El.of (z := .agg #[.slice none 0 0, .int .i64 0, .bool false]) (n := 3) (b := 40) (by kernel_rfl) rfl rfl (by decide)
theorem slices_Clone_Core (v : Value) (xs : List Core) (w : World) (F : List Nat) (h : Sl w v xs F) (hn : xs.length ≤ 100000000) :
  Calls Tryz.prog 100 #[v] w fun e w' => ∃ v' F', e = .returned v' ∧ Oa 41 w.heap.size w' v' xs F' ∧ (∀ b ∈ F', b ∈ F) ∧ F'.Sublist F ∧ Ext w w' := by
 have hnil : ∀ (a : Option Addr) (n c : Nat), (binOp .eql 29 (.slice a n c) (.slice none 0 0)).run Tryz.prog w = .ok (.bool a.isNone) w := fun a n c => Go.Lib.run_eql_slice_nil w 29 41 a n c 0 0 Tryz.underlying29
 obtain ⟨a, c, rfl, hl, hc, ⟨rfl, rfl⟩ | ⟨hne, b, o, F', rfl, rfl, hr⟩⟩ := h
 ·cases a with
  | none =>
   go_enter Tryz.func100, Tryz.ntmps100
   go_wp2
   go_ret
   exact ⟨_, [], rfl, Oa.nil _ _ _, by simp, by simp, Ext.refl _⟩
  | some p =>
   go_enter Tryz.func100, Tryz.ntmps100
   go_wp2
   go_ret
   exact ⟨_, [], rfl, Oa.lit0 _ _, by simp, by simp, (Ext.refl _).alloc _⟩
 ·have hpos : 0 < xs.length := List.length_pos_iff.2 hne
  have HR : Hid (∀ ob, Row (w.alloc ob) b o xs F') := zh (fun ob => hr.keep (((Ext.refl w).alloc ob).block b (hr.lt hne)) (fun k hk => ((Ext.refl w).alloc ob).block k (hr.inh k hk)))
  have HI : Hid (∀ k ∈ F', k < w.heap.size) := zh hr.inh
  clear hr
  go_enter Tryz.func100, Tryz.ntmps100
  go_wp2_with (at_builtin; refine wpl_app (α := Core) rfl _ _ 29 rfl 41 Tryz.underlying29 elCore (L := w.heap.size) (v := .slice (some ⟨w.heap.size, 0, none⟩) 0 0) (xs := []) (ys := xs) rfl (Oa.lit0 _ _) rfl rfl (HR.out _) (by omega) (fun k hk e => by cases e; exact absurd (HI.out _ hk) (Nat.lt_irrefl _)) (by simp; omega) (by simp) ?_; intro v' w' hO' hgr; have HO2 := zh hO'; have HQ2 := zh (Ext.grown ((Ext.refl w).alloc _) hgr (fun k hk => by cases hk; exact Nat.le_refl _)); clear hO' hgr; obtain ⟨ao2, co2, rfl, _⟩ := HO2.out.form)
  go_ret
  exact ⟨_, F', rfl, by simpa using HO2.out, fun b hb => by simp [hb], List.sublist_cons_self _ _, HQ2.out⟩
theorem slices_Clip_Core (n c : Nat) (w : World) (a : Option Addr) (hc : n ≤ c) (hl : c ≤ 9223372036854775807) :
  Calls Tryz.prog 99 #[.slice a n c] w fun e w' => e = .returned (.slice a n n) ∧ w = w' := by
 go_enter Tryz.func99, Tryz.ntmps99
 go_wp2
 go_ret
 exact ⟨rfl, rfl⟩
theorem impl_clone_Core (v : Value) (xs : List Core) (w : World) (F : List Nat) (h : Sl w v xs F) (hn : xs.length ≤ 100000000) :
  Calls Tryz.prog 55 #[v] w fun e w' => ∃ v' F', e = .returned v' ∧ Oh w.heap.size w' v' xs F' ∧ (∀ b ∈ F', b ∈ F) ∧ F'.Sublist F ∧ Ext w w' := by
 obtain ⟨a, c, rfl, hl⟩ := Rs.form ⟨F, h⟩
 have H := zh h
 clear h
 go_enter Tryz.func55, Tryz.ntmps55
 go_wp2_with fail
 refine (slices_Clone_Core _ _ _ _ H.out hn).mono ?_
 rintro e w1 ⟨v1, F1, rfl, ho, hF, hsub, he⟩
 obtain ⟨a1, c1, rfl, _⟩ := ho.form
 have hcp := ho.cap
 have HO := zh ho.oh
 have HX := zh (And.intro hF (And.intro hsub he))
 clear ho hF hsub he
 go_wp2_with fail
 refine (slices_Clip_Core _ _ _ _ hcp.1 hcp.2).mono ?_
 rintro e w2 ⟨rfl, rfl⟩
 go_wp2
 go_ret
 exact ⟨_, F1, rfl, HO.out, HX.out⟩
theorem elHold : El Tryz.prog 46 Hold := El.of (z := .agg #[.slice none 0 0]) (n := 1) (b := 24) (by kernel_rfl) rfl rfl (by decide)
theorem slices_Clone_Hold (v : Value) (xs : List Hold) (w : World) (F : List Nat) (h : Sl w v xs F) (hn : xs.length ≤ 100000000) :
  Calls Tryz.prog 102 #[v] w fun e w' => ∃ v' F', e = .returned v' ∧ Oa 46 w.heap.size w' v' xs F' ∧ (∀ b ∈ F', b ∈ F) ∧ F'.Sublist F ∧ Ext w w' := by
 have hnil : ∀ (a : Option Addr) (n c : Nat), (binOp .eql 30 (.slice a n c) (.slice none 0 0)).run Tryz.prog w = .ok (.bool a.isNone) w := fun a n c => Go.Lib.run_eql_slice_nil w 30 46 a n c 0 0 Tryz.underlying30
 obtain ⟨a, c, rfl, hl, hc, ⟨rfl, rfl⟩ | ⟨hne, b, o, F', rfl, rfl, hr⟩⟩ := h
 ·cases a with
  | none =>
   go_enter Tryz.func102, Tryz.ntmps102
   go_wp2
   go_ret
   exact ⟨_, [], rfl, Oa.nil _ _ _, by simp, by simp, Ext.refl _⟩
  | some p =>
   go_enter Tryz.func102, Tryz.ntmps102
   go_wp2
   go_ret
   exact ⟨_, [], rfl, Oa.lit0 _ _, by simp, by simp, (Ext.refl _).alloc _⟩
 ·have hpos : 0 < xs.length := List.length_pos_iff.2 hne
  have HR : Hid (∀ ob, Row (w.alloc ob) b o xs F') := zh (fun ob => hr.keep (((Ext.refl w).alloc ob).block b (hr.lt hne)) (fun k hk => ((Ext.refl w).alloc ob).block k (hr.inh k hk)))
  have HI : Hid (∀ k ∈ F', k < w.heap.size) := zh hr.inh
  clear hr
  go_enter Tryz.func102, Tryz.ntmps102
  go_wp2_with (at_builtin; refine wpl_app (α := Hold) rfl _ _ 30 rfl 46 Tryz.underlying30 elHold (L := w.heap.size) (v := .slice (some ⟨w.heap.size, 0, none⟩) 0 0) (xs := []) (ys := xs) rfl (Oa.lit0 _ _) rfl rfl (HR.out _) (by omega) (fun k hk e => by cases e; exact absurd (HI.out _ hk) (Nat.lt_irrefl _)) (by simp; omega) (by simp) ?_; intro v' w' hO' hgr; have HO2 := zh hO'; have HQ2 := zh (Ext.grown ((Ext.refl w).alloc _) hgr (fun k hk => by cases hk; exact Nat.le_refl _)); clear hO' hgr; obtain ⟨ao2, co2, rfl, _⟩ := HO2.out.form)
  go_ret
  exact ⟨_, F', rfl, by simpa using HO2.out, fun b hb => by simp [hb], List.sublist_cons_self _ _, HQ2.out⟩
theorem slices_Clip_Hold (n c : Nat) (w : World) (a : Option Addr) (hc : n ≤ c) (hl : c ≤ 9223372036854775807) :
  Calls Tryz.prog 101 #[.slice a n c] w fun e w' => e = .returned (.slice a n n) ∧ w = w' := by
 go_enter Tryz.func101, Tryz.ntmps101
 go_wp2
 go_ret
 exact ⟨rfl, rfl⟩
theorem impl_clone_Hold (v : Value) (xs : List Hold) (w : World) (F : List Nat) (h : Sl w v xs F) (hn : xs.length ≤ 100000000) :
  Calls Tryz.prog 56 #[v] w fun e w' => ∃ v' F', e = .returned v' ∧ Oh w.heap.size w' v' xs F' ∧ (∀ b ∈ F', b ∈ F) ∧ F'.Sublist F ∧ Ext w w' := by
 obtain ⟨a, c, rfl, hl⟩ := Rs.form ⟨F, h⟩
 have H := zh h
 clear h
 go_enter Tryz.func56, Tryz.ntmps56
 go_wp2_with fail
 refine (slices_Clone_Hold _ _ _ _ H.out hn).mono ?_
 rintro e w1 ⟨v1, F1, rfl, ho, hF, hsub, he⟩
 obtain ⟨a1, c1, rfl, _⟩ := ho.form
 have hcp := ho.cap
 have HO := zh ho.oh
 have HX := zh (And.intro hF (And.intro hsub he))
 clear ho hF hsub he
 go_wp2_with fail
 refine (slices_Clip_Hold _ _ _ _ hcp.1 hcp.2).mono ?_
 rintro e w2 ⟨rfl, rfl⟩
 go_wp2
 go_ret
 exact ⟨_, F1, rfl, HO.out, HX.out⟩
end Sk
