/- Contracts of functions of the given program, and lemmas for them: each theorem states the condition under which it holds. -/
import Derived.Test.YtlejdkiihpeojaaGreatChecked
import Derived.Lib.SliceRun
import Derived.Test.YtlejdkiihpeojaaGreatApp
import Derived.Test.YtlejdkiihpeojaaGreatNums
namespace Sk
open Go Go.Proofs Go.RowKit
set_option maxHeartbeats 400000
set_option maxRecDepth 100000
set_option linter.unusedVariables false
set_option linter.unusedSimpArgs false
/-- A list whose own block is new; its elements lie in F. -/
def Oh {α : Type} [GT α] (L : Nat) (w : World) (v : Value) (xs : List α) (F : List Nat) : Prop :=
 (v = .slice none 0 0 ∧ xs = [] ∧ F = []) ∨ ∃ g, v = .slice (some ⟨g, 0, none⟩) xs.length xs.length ∧ L ≤ g ∧ Fz w g ∧ xs.length ≤ maxLen ∧ Row w g 0 xs F ∧ g ∉ F
theorem Oa.oh {α : Type} [GT α] {e : TypeId} {L : Nat} {w : World} {a : Option Addr} {n c : Nat} {xs : List α} {F : List Nat} (h : Oa e L w (.slice a n c) xs F) : Oh L w (.slice a n n) xs F := by
 rcases h with ⟨h, rfl, rfl⟩ | ⟨g, cap, cur, h, hL, hg, hl, hc, hs, hr, hn⟩
 ·cases h; exact .inl ⟨rfl, rfl, rfl⟩
 ·cases h; exact .inr ⟨g, rfl, hL, ⟨_, _, Bk.ofA hg⟩, Nat.le_trans hl hc, hr, hn⟩
theorem Oh.os {α : Type} [GT α] {L : Nat} {w : World} {v : Value} {xs : List α} (h : Oh L w v xs []) : Os L w v xs := by
 rcases h with ⟨rfl, rfl, _⟩ | ⟨g, rfl, hL, hz, hl, hr, _⟩
 ·exact ⟨[], ⟨none, 0, rfl, Nat.le_refl _, Nat.zero_le _, .inl ⟨rfl, rfl⟩⟩, Own.nil _ _⟩
 ·by_cases hx : xs = []
  ·subst hx; exact ⟨[], ⟨some ⟨g, 0, none⟩, 0, rfl, Nat.le_refl _, Nat.zero_le _, .inl ⟨rfl, rfl⟩⟩, Own.nil _ _⟩
  ·exact ⟨[g], ⟨_, _, rfl, Nat.le_refl _, hl, .inr ⟨hx, g, 0, [], rfl, rfl, hr⟩⟩, by simp, fun b hb => by rw [List.mem_singleton] at hb; subst hb; exact ⟨hL, hz⟩⟩
theorem slices_Clone_Int (v : Value) (xs : List Int) (w : World) (F : List Nat) (h : Sl w v xs F) (hn : xs.length ≤ 100000000) :
  Calls Tryz.prog 158 #[v] w fun e w' => ∃ v' F', e = .returned v' ∧ Oa 3 w.heap.size w' v' xs F' ∧ (∀ b ∈ F', b ∈ F) ∧ F'.Sublist F ∧ Ext w w' := by
 have hnil : ∀ (a : Option Addr) (n c : Nat), (binOp .eql 52 (.slice a n c) (.slice none 0 0)).run Tryz.prog w = .ok (.bool a.isNone) w := fun a n c => Go.Lib.run_eql_slice_nil w 52 3 a n c 0 0 Tryz.underlying52
 obtain ⟨a, c, rfl, hl, hc, ⟨rfl, rfl⟩ | ⟨hne, b, o, F', rfl, rfl, hr⟩⟩ := h
 ·cases a with
  | none =>
   go_enter Tryz.func158, Tryz.ntmps158
   go_wp2
   go_ret
   exact ⟨_, [], rfl, Oa.nil _ _ _, by simp, by simp, Ext.refl _⟩
  | some p =>
   go_enter Tryz.func158, Tryz.ntmps158
   go_wp2
   go_ret
   exact ⟨_, [], rfl, Oa.lit0 _ _, by simp, by simp, (Ext.refl _).alloc _⟩
 ·have hpos : 0 < xs.length := List.length_pos_iff.2 hne
  have HR : Hid (∀ ob, Row (w.alloc ob) b o xs F') := Lib.hid (fun ob => hr.keep (((Ext.refl w).alloc ob).block b (hr.lt hne)) (fun k hk => ((Ext.refl w).alloc ob).block k (hr.inh k hk)))
  have HI : Hid (∀ k ∈ F', k < w.heap.size) := Lib.hid hr.inh
  clear hr
  go_enter Tryz.func158, Tryz.ntmps158
  go_wp2_with (at_builtin; refine wpl_app (α := Int) rfl _ _ 52 rfl 3 Tryz.underlying52 elInt (L := w.heap.size) (v := .slice (some ⟨w.heap.size, 0, none⟩) 0 0) (xs := []) (ys := xs) rfl (Oa.lit0 _ _) rfl rfl (HR.out _) (by omega) (fun k hk e => by cases e; exact absurd (HI.out _ hk) (Nat.lt_irrefl _)) (by simp; omega) (by simp) ?_; intro v' w' hO' hgr; have HO2 := Lib.hid hO'; have HQ2 := Lib.hid (Ext.grown ((Ext.refl w).alloc _) hgr (fun k hk => by cases hk; exact Nat.le_refl _)); clear hO' hgr; obtain ⟨ao2, co2, rfl, _⟩ := HO2.out.form)
  go_ret
  exact ⟨_, F', rfl, by simpa using HO2.out, fun b hb => by simp [hb], List.sublist_cons_self _ _, HQ2.out⟩
theorem impl_clone_Int (v : Value) (xs : List Int) (w : World) (F : List Nat) (h : Sl w v xs F) (hn : xs.length ≤ 100000000) :
  Calls Tryz.prog 102 #[v] w fun e w' => ∃ v' F', e = .returned v' ∧ Oh w.heap.size w' v' xs F' ∧ (∀ b ∈ F', b ∈ F) ∧ F'.Sublist F ∧ Ext w w' := by
 obtain ⟨a, c, rfl, hl⟩ := Rs.form ⟨F, h⟩
 have H := Lib.hid h
 clear h
 go_enter Tryz.func102, Tryz.ntmps102
 go_wp2_with fail
 refine (slices_Clone_Int _ _ _ _ H.out hn).mono ?_
 rintro e w1 ⟨v1, F1, rfl, ho, hF, hsub, he⟩
 obtain ⟨a1, c1, rfl, _⟩ := ho.form
 have hcp := ho.cap
 have HO := Lib.hid ho.oh
 have HX := Lib.hid (And.intro hF (And.intro hsub he))
 clear ho hF hsub he
 go_wp2_with fail
 refine (slices_Clip_int _ xs _ _ _ rfl hcp.1 hcp.2).mono ?_
 rintro e w2 ⟨rfl, rfl⟩
 go_wp2
 go_ret
 exact ⟨_, F1, rfl, HO.out, HX.out⟩
theorem elWindow : El Tryz.prog 180 Window := El.of (z := .agg #[.int .i64 0, .int .i64 0, .bool false]) (n := 3) (b := 24) (by kernel_rfl) rfl rfl (by decide)
theorem slices_Clone_Window (v : Value) (xs : List Window) (w : World) (F : List Nat) (h : Sl w v xs F) (hn : xs.length ≤ 100000000) :
  Calls Tryz.prog 186 #[v] w fun e w' => ∃ v' F', e = .returned v' ∧ Oa 180 w.heap.size w' v' xs F' ∧ (∀ b ∈ F', b ∈ F) ∧ F'.Sublist F ∧ Ext w w' := by
 have hnil : ∀ (a : Option Addr) (n c : Nat), (binOp .eql 72 (.slice a n c) (.slice none 0 0)).run Tryz.prog w = .ok (.bool a.isNone) w := fun a n c => Go.Lib.run_eql_slice_nil w 72 180 a n c 0 0 Tryz.underlying72
 obtain ⟨a, c, rfl, hl, hc, ⟨rfl, rfl⟩ | ⟨hne, b, o, F', rfl, rfl, hr⟩⟩ := h
 ·cases a with
  | none =>
   go_enter Tryz.func186, Tryz.ntmps186
   go_wp2
   go_ret
   exact ⟨_, [], rfl, Oa.nil _ _ _, by simp, by simp, Ext.refl _⟩
  | some p =>
   go_enter Tryz.func186, Tryz.ntmps186
   go_wp2
   go_ret
   exact ⟨_, [], rfl, Oa.lit0 _ _, by simp, by simp, (Ext.refl _).alloc _⟩
 ·have hpos : 0 < xs.length := List.length_pos_iff.2 hne
  have HR : Hid (∀ ob, Row (w.alloc ob) b o xs F') := Lib.hid (fun ob => hr.keep (((Ext.refl w).alloc ob).block b (hr.lt hne)) (fun k hk => ((Ext.refl w).alloc ob).block k (hr.inh k hk)))
  have HI : Hid (∀ k ∈ F', k < w.heap.size) := Lib.hid hr.inh
  clear hr
  go_enter Tryz.func186, Tryz.ntmps186
  go_wp2_with (at_builtin; refine wpl_app (α := Window) rfl _ _ 72 rfl 180 Tryz.underlying72 elWindow (L := w.heap.size) (v := .slice (some ⟨w.heap.size, 0, none⟩) 0 0) (xs := []) (ys := xs) rfl (Oa.lit0 _ _) rfl rfl (HR.out _) (by omega) (fun k hk e => by cases e; exact absurd (HI.out _ hk) (Nat.lt_irrefl _)) (by simp; omega) (by simp) ?_; intro v' w' hO' hgr; have HO2 := Lib.hid hO'; have HQ2 := Lib.hid (Ext.grown ((Ext.refl w).alloc _) hgr (fun k hk => by cases hk; exact Nat.le_refl _)); clear hO' hgr; obtain ⟨ao2, co2, rfl, _⟩ := HO2.out.form)
  go_ret
  exact ⟨_, F', rfl, by simpa using HO2.out, fun b hb => by simp [hb], List.sublist_cons_self _ _, HQ2.out⟩
theorem slices_Clip_Window (n c : Nat) (w : World) (a : Option Addr) (hc : n ≤ c) (hl : c ≤ 9223372036854775807) :
  Calls Tryz.prog 185 #[.slice a n c] w fun e w' => e = .returned (.slice a n n) ∧ w = w' := by
 go_enter Tryz.func185, Tryz.ntmps185
 go_wp2
 go_ret
 exact ⟨rfl, rfl⟩
theorem impl_clone_Window (v : Value) (xs : List Window) (w : World) (F : List Nat) (h : Sl w v xs F) (hn : xs.length ≤ 100000000) :
  Calls Tryz.prog 149 #[v] w fun e w' => ∃ v' F', e = .returned v' ∧ Oh w.heap.size w' v' xs F' ∧ (∀ b ∈ F', b ∈ F) ∧ F'.Sublist F ∧ Ext w w' := by
 obtain ⟨a, c, rfl, hl⟩ := Rs.form ⟨F, h⟩
 have H := Lib.hid h
 clear h
 go_enter Tryz.func149, Tryz.ntmps149
 go_wp2_with fail
 refine (slices_Clone_Window _ _ _ _ H.out hn).mono ?_
 rintro e w1 ⟨v1, F1, rfl, ho, hF, hsub, he⟩
 obtain ⟨a1, c1, rfl, _⟩ := ho.form
 have hcp := ho.cap
 have HO := Lib.hid ho.oh
 have HX := Lib.hid (And.intro hF (And.intro hsub he))
 clear ho hF hsub he
 go_wp2_with fail
 refine (slices_Clip_Window _ _ _ _ hcp.1 hcp.2).mono ?_
 rintro e w2 ⟨rfl, rfl⟩
 go_wp2
 go_ret
 exact ⟨_, F1, rfl, HO.out, HX.out⟩
theorem elPart : El Tryz.prog 74 Part := El.of (z := .agg #[.slice none 0 0, .int .i64 0]) (n := 2) (b := 32) (by kernel_rfl) rfl rfl (by decide)
theorem slices_Clone_Part (v : Value) (xs : List Part) (w : World) (F : List Nat) (h : Sl w v xs F) (hn : xs.length ≤ 100000000) :
  Calls Tryz.prog 180 #[v] w fun e w' => ∃ v' F', e = .returned v' ∧ Oa 74 w.heap.size w' v' xs F' ∧ (∀ b ∈ F', b ∈ F) ∧ F'.Sublist F ∧ Ext w w' := by
 have hnil : ∀ (a : Option Addr) (n c : Nat), (binOp .eql 33 (.slice a n c) (.slice none 0 0)).run Tryz.prog w = .ok (.bool a.isNone) w := fun a n c => Go.Lib.run_eql_slice_nil w 33 74 a n c 0 0 Tryz.underlying33
 obtain ⟨a, c, rfl, hl, hc, ⟨rfl, rfl⟩ | ⟨hne, b, o, F', rfl, rfl, hr⟩⟩ := h
 ·cases a with
  | none =>
   go_enter Tryz.func180, Tryz.ntmps180
   go_wp2
   go_ret
   exact ⟨_, [], rfl, Oa.nil _ _ _, by simp, by simp, Ext.refl _⟩
  | some p =>
   go_enter Tryz.func180, Tryz.ntmps180
   go_wp2
   go_ret
   exact ⟨_, [], rfl, Oa.lit0 _ _, by simp, by simp, (Ext.refl _).alloc _⟩
 ·have hpos : 0 < xs.length := List.length_pos_iff.2 hne
  have HR : Hid (∀ ob, Row (w.alloc ob) b o xs F') := Lib.hid (fun ob => hr.keep (((Ext.refl w).alloc ob).block b (hr.lt hne)) (fun k hk => ((Ext.refl w).alloc ob).block k (hr.inh k hk)))
  have HI : Hid (∀ k ∈ F', k < w.heap.size) := Lib.hid hr.inh
  clear hr
  go_enter Tryz.func180, Tryz.ntmps180
  go_wp2_with (at_builtin; refine wpl_app (α := Part) rfl _ _ 33 rfl 74 Tryz.underlying33 elPart (L := w.heap.size) (v := .slice (some ⟨w.heap.size, 0, none⟩) 0 0) (xs := []) (ys := xs) rfl (Oa.lit0 _ _) rfl rfl (HR.out _) (by omega) (fun k hk e => by cases e; exact absurd (HI.out _ hk) (Nat.lt_irrefl _)) (by simp; omega) (by simp) ?_; intro v' w' hO' hgr; have HO2 := Lib.hid hO'; have HQ2 := Lib.hid (Ext.grown ((Ext.refl w).alloc _) hgr (fun k hk => by cases hk; exact Nat.le_refl _)); clear hO' hgr; obtain ⟨ao2, co2, rfl, _⟩ := HO2.out.form)
  go_ret
  exact ⟨_, F', rfl, by simpa using HO2.out, fun b hb => by simp [hb], List.sublist_cons_self _ _, HQ2.out⟩
theorem slices_Clip_Part (n c : Nat) (w : World) (a : Option Addr) (hc : n ≤ c) (hl : c ≤ 9223372036854775807) :
  Calls Tryz.prog 179 #[.slice a n c] w fun e w' => e = .returned (.slice a n n) ∧ w = w' := by
 go_enter Tryz.func179, Tryz.ntmps179
 go_wp2
 go_ret
 exact ⟨rfl, rfl⟩
theorem impl_clone_Part (v : Value) (xs : List Part) (w : World) (F : List Nat) (h : Sl w v xs F) (hn : xs.length ≤ 100000000) :
  Calls Tryz.prog 146 #[v] w fun e w' => ∃ v' F', e = .returned v' ∧ Oh w.heap.size w' v' xs F' ∧ (∀ b ∈ F', b ∈ F) ∧ F'.Sublist F ∧ Ext w w' := by
 obtain ⟨a, c, rfl, hl⟩ := Rs.form ⟨F, h⟩
 have H := Lib.hid h
 clear h
 go_enter Tryz.func146, Tryz.ntmps146
 go_wp2_with fail
 refine (slices_Clone_Part _ _ _ _ H.out hn).mono ?_
 rintro e w1 ⟨v1, F1, rfl, ho, hF, hsub, he⟩
 obtain ⟨a1, c1, rfl, _⟩ := ho.form
 have hcp := ho.cap
 have HO := Lib.hid ho.oh
 have HX := Lib.hid (And.intro hF (And.intro hsub he))
 clear ho hF hsub he
 go_wp2_with fail
 refine (slices_Clip_Part _ _ _ _ hcp.1 hcp.2).mono ?_
 rintro e w2 ⟨rfl, rfl⟩
 go_wp2
 go_ret
 exact ⟨_, F1, rfl, HO.out, HX.out⟩
theorem elChannel : El Tryz.prog 77 Channel := El.of (z := .agg #[.int .i64 0, .int .i64 0, .int .i64 0, .int .i64 0]) (n := 4) (b := 32) (by kernel_rfl) rfl rfl (by decide)
theorem slices_Clone_Channel (v : Value) (xs : List Channel) (w : World) (F : List Nat) (h : Sl w v xs F) (hn : xs.length ≤ 100000000) :
  Calls Tryz.prog 182 #[v] w fun e w' => ∃ v' F', e = .returned v' ∧ Oa 77 w.heap.size w' v' xs F' ∧ (∀ b ∈ F', b ∈ F) ∧ F'.Sublist F ∧ Ext w w' := by
 have hnil : ∀ (a : Option Addr) (n c : Nat), (binOp .eql 34 (.slice a n c) (.slice none 0 0)).run Tryz.prog w = .ok (.bool a.isNone) w := fun a n c => Go.Lib.run_eql_slice_nil w 34 77 a n c 0 0 Tryz.underlying34
 obtain ⟨a, c, rfl, hl, hc, ⟨rfl, rfl⟩ | ⟨hne, b, o, F', rfl, rfl, hr⟩⟩ := h
 ·cases a with
  | none =>
   go_enter Tryz.func182, Tryz.ntmps182
   go_wp2
   go_ret
   exact ⟨_, [], rfl, Oa.nil _ _ _, by simp, by simp, Ext.refl _⟩
  | some p =>
   go_enter Tryz.func182, Tryz.ntmps182
   go_wp2
   go_ret
   exact ⟨_, [], rfl, Oa.lit0 _ _, by simp, by simp, (Ext.refl _).alloc _⟩
 ·have hpos : 0 < xs.length := List.length_pos_iff.2 hne
  have HR : Hid (∀ ob, Row (w.alloc ob) b o xs F') := Lib.hid (fun ob => hr.keep (((Ext.refl w).alloc ob).block b (hr.lt hne)) (fun k hk => ((Ext.refl w).alloc ob).block k (hr.inh k hk)))
  have HI : Hid (∀ k ∈ F', k < w.heap.size) := Lib.hid hr.inh
  clear hr
  go_enter Tryz.func182, Tryz.ntmps182
  go_wp2_with (at_builtin; refine wpl_app (α := Channel) rfl _ _ 34 rfl 77 Tryz.underlying34 elChannel (L := w.heap.size) (v := .slice (some ⟨w.heap.size, 0, none⟩) 0 0) (xs := []) (ys := xs) rfl (Oa.lit0 _ _) rfl rfl (HR.out _) (by omega) (fun k hk e => by cases e; exact absurd (HI.out _ hk) (Nat.lt_irrefl _)) (by simp; omega) (by simp) ?_; intro v' w' hO' hgr; have HO2 := Lib.hid hO'; have HQ2 := Lib.hid (Ext.grown ((Ext.refl w).alloc _) hgr (fun k hk => by cases hk; exact Nat.le_refl _)); clear hO' hgr; obtain ⟨ao2, co2, rfl, _⟩ := HO2.out.form)
  go_ret
  exact ⟨_, F', rfl, by simpa using HO2.out, fun b hb => by simp [hb], List.sublist_cons_self _ _, HQ2.out⟩
theorem slices_Clip_Channel (n c : Nat) (w : World) (a : Option Addr) (hc : n ≤ c) (hl : c ≤ 9223372036854775807) :
  Calls Tryz.prog 181 #[.slice a n c] w fun e w' => e = .returned (.slice a n n) ∧ w = w' := by
 go_enter Tryz.func181, Tryz.ntmps181
 go_wp2
 go_ret
 exact ⟨rfl, rfl⟩
theorem impl_clone_Channel (v : Value) (xs : List Channel) (w : World) (F : List Nat) (h : Sl w v xs F) (hn : xs.length ≤ 100000000) :
  Calls Tryz.prog 147 #[v] w fun e w' => ∃ v' F', e = .returned v' ∧ Oh w.heap.size w' v' xs F' ∧ (∀ b ∈ F', b ∈ F) ∧ F'.Sublist F ∧ Ext w w' := by
 obtain ⟨a, c, rfl, hl⟩ := Rs.form ⟨F, h⟩
 have H := Lib.hid h
 clear h
 go_enter Tryz.func147, Tryz.ntmps147
 go_wp2_with fail
 refine (slices_Clone_Channel _ _ _ _ H.out hn).mono ?_
 rintro e w1 ⟨v1, F1, rfl, ho, hF, hsub, he⟩
 obtain ⟨a1, c1, rfl, _⟩ := ho.form
 have hcp := ho.cap
 have HO := Lib.hid ho.oh
 have HX := Lib.hid (And.intro hF (And.intro hsub he))
 clear ho hF hsub he
 go_wp2_with fail
 refine (slices_Clip_Channel _ _ _ _ hcp.1 hcp.2).mono ?_
 rintro e w2 ⟨rfl, rfl⟩
 go_wp2
 go_ret
 exact ⟨_, F1, rfl, HO.out, HX.out⟩
theorem elSlot : El Tryz.prog 125 Slot := El.of (z := .agg #[.int .i64 0, .int .i64 0]) (n := 2) (b := 16) (by kernel_rfl) rfl rfl (by decide)
theorem slices_Clone_Slot (v : Value) (xs : List Slot) (w : World) (F : List Nat) (h : Sl w v xs F) (hn : xs.length ≤ 100000000) :
  Calls Tryz.prog 184 #[v] w fun e w' => ∃ v' F', e = .returned v' ∧ Oa 125 w.heap.size w' v' xs F' ∧ (∀ b ∈ F', b ∈ F) ∧ F'.Sublist F ∧ Ext w w' := by
 have hnil : ∀ (a : Option Addr) (n c : Nat), (binOp .eql 35 (.slice a n c) (.slice none 0 0)).run Tryz.prog w = .ok (.bool a.isNone) w := fun a n c => Go.Lib.run_eql_slice_nil w 35 125 a n c 0 0 Tryz.underlying35
 obtain ⟨a, c, rfl, hl, hc, ⟨rfl, rfl⟩ | ⟨hne, b, o, F', rfl, rfl, hr⟩⟩ := h
 ·cases a with
  | none =>
   go_enter Tryz.func184, Tryz.ntmps184
   go_wp2
   go_ret
   exact ⟨_, [], rfl, Oa.nil _ _ _, by simp, by simp, Ext.refl _⟩
  | some p =>
   go_enter Tryz.func184, Tryz.ntmps184
   go_wp2
   go_ret
   exact ⟨_, [], rfl, Oa.lit0 _ _, by simp, by simp, (Ext.refl _).alloc _⟩
 ·have hpos : 0 < xs.length := List.length_pos_iff.2 hne
  have HR : Hid (∀ ob, Row (w.alloc ob) b o xs F') := Lib.hid (fun ob => hr.keep (((Ext.refl w).alloc ob).block b (hr.lt hne)) (fun k hk => ((Ext.refl w).alloc ob).block k (hr.inh k hk)))
  have HI : Hid (∀ k ∈ F', k < w.heap.size) := Lib.hid hr.inh
  clear hr
  go_enter Tryz.func184, Tryz.ntmps184
  go_wp2_with (at_builtin; refine wpl_app (α := Slot) rfl _ _ 35 rfl 125 Tryz.underlying35 elSlot (L := w.heap.size) (v := .slice (some ⟨w.heap.size, 0, none⟩) 0 0) (xs := []) (ys := xs) rfl (Oa.lit0 _ _) rfl rfl (HR.out _) (by omega) (fun k hk e => by cases e; exact absurd (HI.out _ hk) (Nat.lt_irrefl _)) (by simp; omega) (by simp) ?_; intro v' w' hO' hgr; have HO2 := Lib.hid hO'; have HQ2 := Lib.hid (Ext.grown ((Ext.refl w).alloc _) hgr (fun k hk => by cases hk; exact Nat.le_refl _)); clear hO' hgr; obtain ⟨ao2, co2, rfl, _⟩ := HO2.out.form)
  go_ret
  exact ⟨_, F', rfl, by simpa using HO2.out, fun b hb => by simp [hb], List.sublist_cons_self _ _, HQ2.out⟩
theorem slices_Clip_Slot (n c : Nat) (w : World) (a : Option Addr) (hc : n ≤ c) (hl : c ≤ 9223372036854775807) :
  Calls Tryz.prog 183 #[.slice a n c] w fun e w' => e = .returned (.slice a n n) ∧ w = w' := by
 go_enter Tryz.func183, Tryz.ntmps183
 go_wp2
 go_ret
 exact ⟨rfl, rfl⟩
theorem impl_clone_Slot (v : Value) (xs : List Slot) (w : World) (F : List Nat) (h : Sl w v xs F) (hn : xs.length ≤ 100000000) :
  Calls Tryz.prog 148 #[v] w fun e w' => ∃ v' F', e = .returned v' ∧ Oh w.heap.size w' v' xs F' ∧ (∀ b ∈ F', b ∈ F) ∧ F'.Sublist F ∧ Ext w w' := by
 obtain ⟨a, c, rfl, hl⟩ := Rs.form ⟨F, h⟩
 have H := Lib.hid h
 clear h
 go_enter Tryz.func148, Tryz.ntmps148
 go_wp2_with fail
 refine (slices_Clone_Slot _ _ _ _ H.out hn).mono ?_
 rintro e w1 ⟨v1, F1, rfl, ho, hF, hsub, he⟩
 obtain ⟨a1, c1, rfl, _⟩ := ho.form
 have hcp := ho.cap
 have HO := Lib.hid ho.oh
 have HX := Lib.hid (And.intro hF (And.intro hsub he))
 clear ho hF hsub he
 go_wp2_with fail
 refine (slices_Clip_Slot _ _ _ _ hcp.1 hcp.2).mono ?_
 rintro e w2 ⟨rfl, rfl⟩
 go_wp2
 go_ret
 exact ⟨_, F1, rfl, HO.out, HX.out⟩
theorem elOrder : El Tryz.prog 68 Order := El.of (z := .agg #[.int .i64 0, .int .i64 0, .int .i64 0]) (n := 3) (b := 24) (by kernel_rfl) rfl rfl (by decide)
theorem slices_Clone_Order (v : Value) (xs : List Order) (w : World) (F : List Nat) (h : Sl w v xs F) (hn : xs.length ≤ 100000000) :
  Calls Tryz.prog 157 #[v] w fun e w' => ∃ v' F', e = .returned v' ∧ Oa 68 w.heap.size w' v' xs F' ∧ (∀ b ∈ F', b ∈ F) ∧ F'.Sublist F ∧ Ext w w' := by
 have hnil : ∀ (a : Option Addr) (n c : Nat), (binOp .eql 71 (.slice a n c) (.slice none 0 0)).run Tryz.prog w = .ok (.bool a.isNone) w := fun a n c => Go.Lib.run_eql_slice_nil w 71 68 a n c 0 0 Tryz.underlying71
 obtain ⟨a, c, rfl, hl, hc, ⟨rfl, rfl⟩ | ⟨hne, b, o, F', rfl, rfl, hr⟩⟩ := h
 ·cases a with
  | none =>
   go_enter Tryz.func157, Tryz.ntmps157
   go_wp2
   go_ret
   exact ⟨_, [], rfl, Oa.nil _ _ _, by simp, by simp, Ext.refl _⟩
  | some p =>
   go_enter Tryz.func157, Tryz.ntmps157
   go_wp2
   go_ret
   exact ⟨_, [], rfl, Oa.lit0 _ _, by simp, by simp, (Ext.refl _).alloc _⟩
 ·have hpos : 0 < xs.length := List.length_pos_iff.2 hne
  have HR : Hid (∀ ob, Row (w.alloc ob) b o xs F') := Lib.hid (fun ob => hr.keep (((Ext.refl w).alloc ob).block b (hr.lt hne)) (fun k hk => ((Ext.refl w).alloc ob).block k (hr.inh k hk)))
  have HI : Hid (∀ k ∈ F', k < w.heap.size) := Lib.hid hr.inh
  clear hr
  go_enter Tryz.func157, Tryz.ntmps157
  go_wp2_with (at_builtin; refine wpl_app (α := Order) rfl _ _ 71 rfl 68 Tryz.underlying71 elOrder (L := w.heap.size) (v := .slice (some ⟨w.heap.size, 0, none⟩) 0 0) (xs := []) (ys := xs) rfl (Oa.lit0 _ _) rfl rfl (HR.out _) (by omega) (fun k hk e => by cases e; exact absurd (HI.out _ hk) (Nat.lt_irrefl _)) (by simp; omega) (by simp) ?_; intro v' w' hO' hgr; have HO2 := Lib.hid hO'; have HQ2 := Lib.hid (Ext.grown ((Ext.refl w).alloc _) hgr (fun k hk => by cases hk; exact Nat.le_refl _)); clear hO' hgr; obtain ⟨ao2, co2, rfl, _⟩ := HO2.out.form)
  go_ret
  exact ⟨_, F', rfl, by simpa using HO2.out, fun b hb => by simp [hb], List.sublist_cons_self _ _, HQ2.out⟩
theorem slices_Clip_Order (n c : Nat) (w : World) (a : Option Addr) (hc : n ≤ c) (hl : c ≤ 9223372036854775807) :
  Calls Tryz.prog 156 #[.slice a n c] w fun e w' => e = .returned (.slice a n n) ∧ w = w' := by
 go_enter Tryz.func156, Tryz.ntmps156
 go_wp2
 go_ret
 exact ⟨rfl, rfl⟩
theorem impl_clone_Order (v : Value) (xs : List Order) (w : World) (F : List Nat) (h : Sl w v xs F) (hn : xs.length ≤ 100000000) :
  Calls Tryz.prog 100 #[v] w fun e w' => ∃ v' F', e = .returned v' ∧ Oh w.heap.size w' v' xs F' ∧ (∀ b ∈ F', b ∈ F) ∧ F'.Sublist F ∧ Ext w w' := by
 obtain ⟨a, c, rfl, hl⟩ := Rs.form ⟨F, h⟩
 have H := Lib.hid h
 clear h
 go_enter Tryz.func100, Tryz.ntmps100
 go_wp2_with fail
 refine (slices_Clone_Order _ _ _ _ H.out hn).mono ?_
 rintro e w1 ⟨v1, F1, rfl, ho, hF, hsub, he⟩
 obtain ⟨a1, c1, rfl, _⟩ := ho.form
 have hcp := ho.cap
 have HO := Lib.hid ho.oh
 have HX := Lib.hid (And.intro hF (And.intro hsub he))
 clear ho hF hsub he
 go_wp2_with fail
 refine (slices_Clip_Order _ _ _ _ hcp.1 hcp.2).mono ?_
 rintro e w2 ⟨rfl, rfl⟩
 go_wp2
 go_ret
 exact ⟨_, F1, rfl, HO.out, HX.out⟩
theorem elOrderS : El Tryz.prog 71 (List Order) := El.of (z := .slice none 0 0) (n := 1) (b := 24) (by kernel_rfl) rfl rfl (by decide)
theorem slices_Clone_OrderS (v : Value) (xs : List (List Order)) (w : World) (F : List Nat) (h : Sl w v xs F) (hn : xs.length ≤ 100000000) :
  Calls Tryz.prog 151 #[v] w fun e w' => ∃ v' F', e = .returned v' ∧ Oa 71 w.heap.size w' v' xs F' ∧ (∀ b ∈ F', b ∈ F) ∧ F'.Sublist F ∧ Ext w w' := by
 have hnil : ∀ (a : Option Addr) (n c : Nat), (binOp .eql 38 (.slice a n c) (.slice none 0 0)).run Tryz.prog w = .ok (.bool a.isNone) w := fun a n c => Go.Lib.run_eql_slice_nil w 38 71 a n c 0 0 Tryz.underlying38
 obtain ⟨a, c, rfl, hl, hc, ⟨rfl, rfl⟩ | ⟨hne, b, o, F', rfl, rfl, hr⟩⟩ := h
 ·cases a with
  | none =>
   go_enter Tryz.func151, Tryz.ntmps151
   go_wp2
   go_ret
   exact ⟨_, [], rfl, Oa.nil _ _ _, by simp, by simp, Ext.refl _⟩
  | some p =>
   go_enter Tryz.func151, Tryz.ntmps151
   go_wp2
   go_ret
   exact ⟨_, [], rfl, Oa.lit0 _ _, by simp, by simp, (Ext.refl _).alloc _⟩
 ·have hpos : 0 < xs.length := List.length_pos_iff.2 hne
  have HR : Hid (∀ ob, Row (w.alloc ob) b o xs F') := Lib.hid (fun ob => hr.keep (((Ext.refl w).alloc ob).block b (hr.lt hne)) (fun k hk => ((Ext.refl w).alloc ob).block k (hr.inh k hk)))
  have HI : Hid (∀ k ∈ F', k < w.heap.size) := Lib.hid hr.inh
  clear hr
  go_enter Tryz.func151, Tryz.ntmps151
  go_wp2_with (at_builtin; refine wpl_app (α := (List Order)) rfl _ _ 38 rfl 71 Tryz.underlying38 elOrderS (L := w.heap.size) (v := .slice (some ⟨w.heap.size, 0, none⟩) 0 0) (xs := []) (ys := xs) rfl (Oa.lit0 _ _) rfl rfl (HR.out _) (by omega) (fun k hk e => by cases e; exact absurd (HI.out _ hk) (Nat.lt_irrefl _)) (by simp; omega) (by simp) ?_; intro v' w' hO' hgr; have HO2 := Lib.hid hO'; have HQ2 := Lib.hid (Ext.grown ((Ext.refl w).alloc _) hgr (fun k hk => by cases hk; exact Nat.le_refl _)); clear hO' hgr; obtain ⟨ao2, co2, rfl, _⟩ := HO2.out.form)
  go_ret
  exact ⟨_, F', rfl, by simpa using HO2.out, fun b hb => by simp [hb], List.sublist_cons_self _ _, HQ2.out⟩
theorem slices_Clip_OrderS (n c : Nat) (w : World) (a : Option Addr) (hc : n ≤ c) (hl : c ≤ 9223372036854775807) :
  Calls Tryz.prog 150 #[.slice a n c] w fun e w' => e = .returned (.slice a n n) ∧ w = w' := by
 go_enter Tryz.func150, Tryz.ntmps150
 go_wp2
 go_ret
 exact ⟨rfl, rfl⟩
theorem impl_clone_OrderS (v : Value) (xs : List (List Order)) (w : World) (F : List Nat) (h : Sl w v xs F) (hn : xs.length ≤ 100000000) :
  Calls Tryz.prog 97 #[v] w fun e w' => ∃ v' F', e = .returned v' ∧ Oh w.heap.size w' v' xs F' ∧ (∀ b ∈ F', b ∈ F) ∧ F'.Sublist F ∧ Ext w w' := by
 obtain ⟨a, c, rfl, hl⟩ := Rs.form ⟨F, h⟩
 have H := Lib.hid h
 clear h
 go_enter Tryz.func97, Tryz.ntmps97
 go_wp2_with fail
 refine (slices_Clone_OrderS _ _ _ _ H.out hn).mono ?_
 rintro e w1 ⟨v1, F1, rfl, ho, hF, hsub, he⟩
 obtain ⟨a1, c1, rfl, _⟩ := ho.form
 have hcp := ho.cap
 have HO := Lib.hid ho.oh
 have HX := Lib.hid (And.intro hF (And.intro hsub he))
 clear ho hF hsub he
 go_wp2_with fail
 refine (slices_Clip_OrderS _ _ _ _ hcp.1 hcp.2).mono ?_
 rintro e w2 ⟨rfl, rfl⟩
 go_wp2
 go_ret
 exact ⟨_, F1, rfl, HO.out, HX.out⟩
theorem elCore : El Tryz.prog 66 Core := El.of (z := .agg #[.slice none 0 0, .int .i64 0, .bool false]) (n := 3) (b := 40) (by kernel_rfl) rfl rfl (by decide)
theorem slices_Clone_Core (v : Value) (xs : List Core) (w : World) (F : List Nat) (h : Sl w v xs F) (hn : xs.length ≤ 100000000) :
  Calls Tryz.prog 153 #[v] w fun e w' => ∃ v' F', e = .returned v' ∧ Oa 66 w.heap.size w' v' xs F' ∧ (∀ b ∈ F', b ∈ F) ∧ F'.Sublist F ∧ Ext w w' := by
 have hnil : ∀ (a : Option Addr) (n c : Nat), (binOp .eql 39 (.slice a n c) (.slice none 0 0)).run Tryz.prog w = .ok (.bool a.isNone) w := fun a n c => Go.Lib.run_eql_slice_nil w 39 66 a n c 0 0 Tryz.underlying39
 obtain ⟨a, c, rfl, hl, hc, ⟨rfl, rfl⟩ | ⟨hne, b, o, F', rfl, rfl, hr⟩⟩ := h
 ·cases a with
  | none =>
   go_enter Tryz.func153, Tryz.ntmps153
   go_wp2
   go_ret
   exact ⟨_, [], rfl, Oa.nil _ _ _, by simp, by simp, Ext.refl _⟩
  | some p =>
   go_enter Tryz.func153, Tryz.ntmps153
   go_wp2
   go_ret
   exact ⟨_, [], rfl, Oa.lit0 _ _, by simp, by simp, (Ext.refl _).alloc _⟩
 ·have hpos : 0 < xs.length := List.length_pos_iff.2 hne
  have HR : Hid (∀ ob, Row (w.alloc ob) b o xs F') := Lib.hid (fun ob => hr.keep (((Ext.refl w).alloc ob).block b (hr.lt hne)) (fun k hk => ((Ext.refl w).alloc ob).block k (hr.inh k hk)))
  have HI : Hid (∀ k ∈ F', k < w.heap.size) := Lib.hid hr.inh
  clear hr
  go_enter Tryz.func153, Tryz.ntmps153
  go_wp2_with (at_builtin; refine wpl_app (α := Core) rfl _ _ 39 rfl 66 Tryz.underlying39 elCore (L := w.heap.size) (v := .slice (some ⟨w.heap.size, 0, none⟩) 0 0) (xs := []) (ys := xs) rfl (Oa.lit0 _ _) rfl rfl (HR.out _) (by omega) (fun k hk e => by cases e; exact absurd (HI.out _ hk) (Nat.lt_irrefl _)) (by simp; omega) (by simp) ?_; intro v' w' hO' hgr; have HO2 := Lib.hid hO'; have HQ2 := Lib.hid (Ext.grown ((Ext.refl w).alloc _) hgr (fun k hk => by cases hk; exact Nat.le_refl _)); clear hO' hgr; obtain ⟨ao2, co2, rfl, _⟩ := HO2.out.form)
  go_ret
  exact ⟨_, F', rfl, by simpa using HO2.out, fun b hb => by simp [hb], List.sublist_cons_self _ _, HQ2.out⟩
theorem slices_Clip_Core (n c : Nat) (w : World) (a : Option Addr) (hc : n ≤ c) (hl : c ≤ 9223372036854775807) :
  Calls Tryz.prog 152 #[.slice a n c] w fun e w' => e = .returned (.slice a n n) ∧ w = w' := by
 go_enter Tryz.func152, Tryz.ntmps152
 go_wp2
 go_ret
 exact ⟨rfl, rfl⟩
theorem impl_clone_Core (v : Value) (xs : List Core) (w : World) (F : List Nat) (h : Sl w v xs F) (hn : xs.length ≤ 100000000) :
  Calls Tryz.prog 98 #[v] w fun e w' => ∃ v' F', e = .returned v' ∧ Oh w.heap.size w' v' xs F' ∧ (∀ b ∈ F', b ∈ F) ∧ F'.Sublist F ∧ Ext w w' := by
 obtain ⟨a, c, rfl, hl⟩ := Rs.form ⟨F, h⟩
 have H := Lib.hid h
 clear h
 go_enter Tryz.func98, Tryz.ntmps98
 go_wp2_with fail
 refine (slices_Clone_Core _ _ _ _ H.out hn).mono ?_
 rintro e w1 ⟨v1, F1, rfl, ho, hF, hsub, he⟩
 obtain ⟨a1, c1, rfl, _⟩ := ho.form
 have hcp := ho.cap
 have HO := Lib.hid ho.oh
 have HX := Lib.hid (And.intro hF (And.intro hsub he))
 clear ho hF hsub he
 go_wp2_with fail
 refine (slices_Clip_Core _ _ _ _ hcp.1 hcp.2).mono ?_
 rintro e w2 ⟨rfl, rfl⟩
 go_wp2
 go_ret
 exact ⟨_, F1, rfl, HO.out, HX.out⟩
theorem elHold : El Tryz.prog 79 Hold := El.of (z := .agg #[.slice none 0 0]) (n := 1) (b := 24) (by kernel_rfl) rfl rfl (by decide)
theorem slices_Clone_Hold (v : Value) (xs : List Hold) (w : World) (F : List Nat) (h : Sl w v xs F) (hn : xs.length ≤ 100000000) :
  Calls Tryz.prog 155 #[v] w fun e w' => ∃ v' F', e = .returned v' ∧ Oa 79 w.heap.size w' v' xs F' ∧ (∀ b ∈ F', b ∈ F) ∧ F'.Sublist F ∧ Ext w w' := by
 have hnil : ∀ (a : Option Addr) (n c : Nat), (binOp .eql 40 (.slice a n c) (.slice none 0 0)).run Tryz.prog w = .ok (.bool a.isNone) w := fun a n c => Go.Lib.run_eql_slice_nil w 40 79 a n c 0 0 Tryz.underlying40
 obtain ⟨a, c, rfl, hl, hc, ⟨rfl, rfl⟩ | ⟨hne, b, o, F', rfl, rfl, hr⟩⟩ := h
 ·cases a with
  | none =>
   go_enter Tryz.func155, Tryz.ntmps155
   go_wp2
   go_ret
   exact ⟨_, [], rfl, Oa.nil _ _ _, by simp, by simp, Ext.refl _⟩
  | some p =>
   go_enter Tryz.func155, Tryz.ntmps155
   go_wp2
   go_ret
   exact ⟨_, [], rfl, Oa.lit0 _ _, by simp, by simp, (Ext.refl _).alloc _⟩
 ·have hpos : 0 < xs.length := List.length_pos_iff.2 hne
  have HR : Hid (∀ ob, Row (w.alloc ob) b o xs F') := Lib.hid (fun ob => hr.keep (((Ext.refl w).alloc ob).block b (hr.lt hne)) (fun k hk => ((Ext.refl w).alloc ob).block k (hr.inh k hk)))
  have HI : Hid (∀ k ∈ F', k < w.heap.size) := Lib.hid hr.inh
  clear hr
  go_enter Tryz.func155, Tryz.ntmps155
  go_wp2_with (at_builtin; refine wpl_app (α := Hold) rfl _ _ 40 rfl 79 Tryz.underlying40 elHold (L := w.heap.size) (v := .slice (some ⟨w.heap.size, 0, none⟩) 0 0) (xs := []) (ys := xs) rfl (Oa.lit0 _ _) rfl rfl (HR.out _) (by omega) (fun k hk e => by cases e; exact absurd (HI.out _ hk) (Nat.lt_irrefl _)) (by simp; omega) (by simp) ?_; intro v' w' hO' hgr; have HO2 := Lib.hid hO'; have HQ2 := Lib.hid (Ext.grown ((Ext.refl w).alloc _) hgr (fun k hk => by cases hk; exact Nat.le_refl _)); clear hO' hgr; obtain ⟨ao2, co2, rfl, _⟩ := HO2.out.form)
  go_ret
  exact ⟨_, F', rfl, by simpa using HO2.out, fun b hb => by simp [hb], List.sublist_cons_self _ _, HQ2.out⟩
theorem slices_Clip_Hold (n c : Nat) (w : World) (a : Option Addr) (hc : n ≤ c) (hl : c ≤ 9223372036854775807) :
  Calls Tryz.prog 154 #[.slice a n c] w fun e w' => e = .returned (.slice a n n) ∧ w = w' := by
 go_enter Tryz.func154, Tryz.ntmps154
 go_wp2
 go_ret
 exact ⟨rfl, rfl⟩
theorem impl_clone_Hold (v : Value) (xs : List Hold) (w : World) (F : List Nat) (h : Sl w v xs F) (hn : xs.length ≤ 100000000) :
  Calls Tryz.prog 99 #[v] w fun e w' => ∃ v' F', e = .returned v' ∧ Oh w.heap.size w' v' xs F' ∧ (∀ b ∈ F', b ∈ F) ∧ F'.Sublist F ∧ Ext w w' := by
 obtain ⟨a, c, rfl, hl⟩ := Rs.form ⟨F, h⟩
 have H := Lib.hid h
 clear h
 go_enter Tryz.func99, Tryz.ntmps99
 go_wp2_with fail
 refine (slices_Clone_Hold _ _ _ _ H.out hn).mono ?_
 rintro e w1 ⟨v1, F1, rfl, ho, hF, hsub, he⟩
 obtain ⟨a1, c1, rfl, _⟩ := ho.form
 have hcp := ho.cap
 have HO := Lib.hid ho.oh
 have HX := Lib.hid (And.intro hF (And.intro hsub he))
 clear ho hF hsub he
 go_wp2_with fail
 refine (slices_Clip_Hold _ _ _ _ hcp.1 hcp.2).mono ?_
 rintro e w2 ⟨rfl, rfl⟩
 go_wp2
 go_ret
 exact ⟨_, F1, rfl, HO.out, HX.out⟩
end Sk
