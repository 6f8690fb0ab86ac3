/- Contracts of functions of the given program, each under the condition that it states. -/
import Derived.Test.YtbmdiefanhghcaaGreatChecked
import Derived.Lib.SliceRun
import Derived.Test.YtbmdiefanhghcaaGreatApp
import Derived.Test.YtbmdiefanhghcaaGreatChan
namespace Sk
open Go Go.Proofs Go.RowKit
set_option maxHeartbeats 400000
set_option maxRecDepth 100000
set_option linter.unusedVariables false
set_option linter.unusedSimpArgs false
def Oh {α : Type} [GT α] (L : Nat) (w : World) (v : Value) (xs : List α) (F : List Nat) : Prop :=
 (v = .slice none 0 0 ∧ xs = [] ∧ F = []) ∨ ∃ g, v = .slice (some ⟨g, 0, none⟩) xs.length xs.length ∧ L ≤ g ∧ Fz w g ∧ xs.length ≤ maxLen ∧ Row w g 0 xs F ∧ g ∉ F
theorem Oa.oh {α : Type} [GT α] {e : TypeId} {L : Nat} {w : World} {a : Option Addr} {n c : Nat} {xs : List α} {F : List Nat} (h : Oa e L w (.slice a n c) xs F) : Oh L w (.slice a n n) xs F := by
 rcases h with ⟨h, rfl, rfl⟩ | ⟨g, cap, cur, h, hL, hg, hl, hc, hs, hr, hn⟩
 ·cases h; exact .inl ⟨rfl, rfl, rfl⟩
 ·cases h; exact .inr ⟨g, rfl, hL, ⟨_, _, Bk.ofA hg⟩, Nat.le_trans hl hc, hr, hn⟩
theorem Oh.os {α : Type} [GT α] {L : Nat} {w : World} {v : Value} {xs : List α} (h : Oh L w v xs []) : Os L w v xs := by
 rcases h with ⟨rfl, rfl, _⟩ | ⟨g, rfl, hL, hz, hl, hr, _⟩
 ·exact ⟨[], ⟨none, 0, rfl, Nat.le_refl _, Nat.zero_le _, .inl ⟨rfl, rfl⟩⟩, Own.nil _ _⟩
 ·by_cases hx : xs = []
  ·subst hx; exact ⟨[], ⟨some ⟨g, 0, none⟩, 0, rfl, Nat.le_refl _, Nat.zero_le _, .inl ⟨rfl, rfl⟩⟩, Own.nil _ _⟩
  ·exact ⟨[g], ⟨_, _, rfl, Nat.le_refl _, hl, .inr ⟨hx, g, 0, [], rfl, rfl, hr⟩⟩, by simp, fun b hb => by rw [List.mem_singleton] at hb; subst hb; exact ⟨hL, hz⟩⟩
theorem slices_Clone_Int (v : Value) (xs : List Int) (w : World) (F : List Nat) (h : Sl w v xs F) (hn : xs.length ≤ 100000000) :
  Calls Tryz.prog 229 #[v] w fun e w' => ∃ v' F', e = .returned v' ∧ Oa 3 w.heap.size w' v' xs F' ∧ (∀ b ∈ F', b ∈ F) ∧ F'.Sublist F ∧ Ext w w' := by
 have hnil : ∀ (a : Option Addr) (n c : Nat), (binOp .eql 35 (.slice a n c) (.slice none 0 0)).run Tryz.prog w = .ok (.bool a.isNone) w := fun a n c => Go.Lib.run_eql_slice_nil w 35 3 a n c 0 0 Tryz.underlying35
 obtain ⟨a, c, rfl, hl, hc, ⟨rfl, rfl⟩ | ⟨hne, b, o, F', rfl, rfl, hr⟩⟩ := h
 ·cases a with
  | none =>
   go_enter Tryz.func229, Tryz.ntmps229
   go_wp2
   go_ret
   exact ⟨_, [], rfl, Oa.nil _ _ _, by simp, by simp, Ext.refl _⟩
  | some p =>
   go_enter Tryz.func229, Tryz.ntmps229
   go_wp2
   go_ret
   exact ⟨_, [], rfl, Oa.lit0 _ _, by simp, by simp, (Ext.refl _).alloc _⟩
 ·have hpos : 0 < xs.length := List.length_pos_iff.2 hne
  have HR : Hid (∀ ob, Row (w.alloc ob) b o xs F') := zh (fun ob => hr.keep (((Ext.refl w).alloc ob).block b (hr.lt hne)) (fun k hk => ((Ext.refl w).alloc ob).block k (hr.inh k hk)))
  have HI : Hid (∀ k ∈ F', k < w.heap.size) := zh hr.inh
  clear hr
  go_enter Tryz.func229, Tryz.ntmps229
  go_wp2_with (at_builtin; refine wpl_app (α := Int) rfl _ _ 35 rfl 3 Tryz.underlying35 elInt (L := w.heap.size) (v := .slice (some ⟨w.heap.size, 0, none⟩) 0 0) (xs := []) (ys := xs) rfl (Oa.lit0 _ _) rfl rfl (HR.out _) (by omega) (fun k hk e => by cases e; exact absurd (HI.out _ hk) (Nat.lt_irrefl _)) (by simp; omega) (by simp) ?_; intro v' w' hO' hgr; have HO2 := zh hO'; have HQ2 := zh (Ext.grown ((Ext.refl w).alloc _) hgr (fun k hk => by cases hk; exact Nat.le_refl _)); clear hO' hgr; obtain ⟨ao2, co2, rfl, _⟩ := HO2.out.form)
  go_ret
  exact ⟨_, F', rfl, by simpa using HO2.out, fun b hb => by simp [hb], List.sublist_cons_self _ _, HQ2.out⟩
theorem impl_clone_Int (v : Value) (xs : List Int) (w : World) (F : List Nat) (h : Sl w v xs F) (hn : xs.length ≤ 100000000) :
  Calls Tryz.prog 183 #[v] w fun e w' => ∃ v' F', e = .returned v' ∧ Oh w.heap.size w' v' xs F' ∧ (∀ b ∈ F', b ∈ F) ∧ F'.Sublist F ∧ Ext w w' := by
 obtain ⟨a, c, rfl, hl⟩ := Rs.form ⟨F, h⟩
 have H := zh h
 clear h
 go_enter Tryz.func183, Tryz.ntmps183
 go_wp2_with fail
 refine (slices_Clone_Int _ _ _ _ H.out hn).mono ?_
 rintro e w1 ⟨v1, F1, rfl, ho, hF, hsub, he⟩
 obtain ⟨a1, c1, rfl, _⟩ := ho.form
 have hcp := ho.cap
 have HO := zh ho.oh
 have HX := zh (And.intro hF (And.intro hsub he))
 clear ho hF hsub he
 go_wp2_with fail
 refine (slices_Clip_int _ xs _ _ _ rfl hcp.1 hcp.2).mono ?_
 rintro e w2 ⟨rfl, rfl⟩
 go_wp2
 go_ret
 exact ⟨_, F1, rfl, HO.out, HX.out⟩
theorem elWindow : El Tryz.prog 248 Window := El.of (z := .agg #[.int .i64 0, .int .i64 0, .bool false]) (n := 3) (b := 24) (by kernel_rfl) rfl rfl (by decide)
theorem slices_Clone_Window (v : Value) (xs : List Window) (w : World) (F : List Nat) (h : Sl w v xs F) (hn : xs.length ≤ 100000000) :
  Calls Tryz.prog 252 #[v] w fun e w' => ∃ v' F', e = .returned v' ∧ Oa 248 w.heap.size w' v' xs F' ∧ (∀ b ∈ F', b ∈ F) ∧ F'.Sublist F ∧ Ext w w' := by
 have hnil : ∀ (a : Option Addr) (n c : Nat), (binOp .eql 145 (.slice a n c) (.slice none 0 0)).run Tryz.prog w = .ok (.bool a.isNone) w := fun a n c => Go.Lib.run_eql_slice_nil w 145 248 a n c 0 0 Tryz.underlying145
 obtain ⟨a, c, rfl, hl, hc, ⟨rfl, rfl⟩ | ⟨hne, b, o, F', rfl, rfl, hr⟩⟩ := h
 ·cases a with
  | none =>
   go_enter Tryz.func252, Tryz.ntmps252
   go_wp2
   go_ret
   exact ⟨_, [], rfl, Oa.nil _ _ _, by simp, by simp, Ext.refl _⟩
  | some p =>
   go_enter Tryz.func252, Tryz.ntmps252
   go_wp2
   go_ret
   exact ⟨_, [], rfl, Oa.lit0 _ _, by simp, by simp, (Ext.refl _).alloc _⟩
 ·have hpos : 0 < xs.length := List.length_pos_iff.2 hne
  have HR : Hid (∀ ob, Row (w.alloc ob) b o xs F') := zh (fun ob => hr.keep (((Ext.refl w).alloc ob).block b (hr.lt hne)) (fun k hk => ((Ext.refl w).alloc ob).block k (hr.inh k hk)))
  have HI : Hid (∀ k ∈ F', k < w.heap.size) := zh hr.inh
  clear hr
  go_enter Tryz.func252, Tryz.ntmps252
  go_wp2_with (at_builtin; refine wpl_app (α := Window) rfl _ _ 145 rfl 248 Tryz.underlying145 elWindow (L := w.heap.size) (v := .slice (some ⟨w.heap.size, 0, none⟩) 0 0) (xs := []) (ys := xs) rfl (Oa.lit0 _ _) rfl rfl (HR.out _) (by omega) (fun k hk e => by cases e; exact absurd (HI.out _ hk) (Nat.lt_irrefl _)) (by simp; omega) (by simp) ?_; intro v' w' hO' hgr; have HO2 := zh hO'; have HQ2 := zh (Ext.grown ((Ext.refl w).alloc _) hgr (fun k hk => by cases hk; exact Nat.le_refl _)); clear hO' hgr; obtain ⟨ao2, co2, rfl, _⟩ := HO2.out.form)
  go_ret
  exact ⟨_, F', rfl, by simpa using HO2.out, fun b hb => by simp [hb], List.sublist_cons_self _ _, HQ2.out⟩
theorem slices_Clip_Window (n c : Nat) (w : World) (a : Option Addr) (hc : n ≤ c) (hl : c ≤ 9223372036854775807) :
  Calls Tryz.prog 251 #[.slice a n c] w fun e w' => e = .returned (.slice a n n) ∧ w = w' := by
 go_enter Tryz.func251, Tryz.ntmps251
 go_wp2
 go_ret
 exact ⟨rfl, rfl⟩
theorem impl_clone_Window (v : Value) (xs : List Window) (w : World) (F : List Nat) (h : Sl w v xs F) (hn : xs.length ≤ 100000000) :
  Calls Tryz.prog 221 #[v] w fun e w' => ∃ v' F', e = .returned v' ∧ Oh w.heap.size w' v' xs F' ∧ (∀ b ∈ F', b ∈ F) ∧ F'.Sublist F ∧ Ext w w' := by
 obtain ⟨a, c, rfl, hl⟩ := Rs.form ⟨F, h⟩
 have H := zh h
 clear h
 go_enter Tryz.func221, Tryz.ntmps221
 go_wp2_with fail
 refine (slices_Clone_Window _ _ _ _ H.out hn).mono ?_
 rintro e w1 ⟨v1, F1, rfl, ho, hF, hsub, he⟩
 obtain ⟨a1, c1, rfl, _⟩ := ho.form
 have hcp := ho.cap
 have HO := zh ho.oh
 have HX := zh (And.intro hF (And.intro hsub he))
 clear ho hF hsub he
 go_wp2_with fail
 refine (slices_Clip_Window _ _ _ _ hcp.1 hcp.2).mono ?_
 rintro e w2 ⟨rfl, rfl⟩
 go_wp2
 go_ret
 exact ⟨_, F1, rfl, HO.out, HX.out⟩
theorem elPart : El Tryz.prog 147 Part := El.of (z := .agg #[.slice none 0 0, .int .i64 0]) (n := 2) (b := 32) (by kernel_rfl) rfl rfl (by decide)
theorem slices_Clone_Part (v : Value) (xs : List Part) (w : World) (F : List Nat) (h : Sl w v xs F) (hn : xs.length ≤ 100000000) :
  Calls Tryz.prog 246 #[v] w fun e w' => ∃ v' F', e = .returned v' ∧ Oa 147 w.heap.size w' v' xs F' ∧ (∀ b ∈ F', b ∈ F) ∧ F'.Sublist F ∧ Ext w w' := by
 have hnil : ∀ (a : Option Addr) (n c : Nat), (binOp .eql 37 (.slice a n c) (.slice none 0 0)).run Tryz.prog w = .ok (.bool a.isNone) w := fun a n c => Go.Lib.run_eql_slice_nil w 37 147 a n c 0 0 Tryz.underlying37
 obtain ⟨a, c, rfl, hl, hc, ⟨rfl, rfl⟩ | ⟨hne, b, o, F', rfl, rfl, hr⟩⟩ := h
 ·cases a with
  | none =>
   go_enter Tryz.func246, Tryz.ntmps246
   go_wp2
   go_ret
   exact ⟨_, [], rfl, Oa.nil _ _ _, by simp, by simp, Ext.refl _⟩
  | some p =>
   go_enter Tryz.func246, Tryz.ntmps246
   go_wp2
   go_ret
   exact ⟨_, [], rfl, Oa.lit0 _ _, by simp, by simp, (Ext.refl _).alloc _⟩
 ·have hpos : 0 < xs.length := List.length_pos_iff.2 hne
  have HR : Hid (∀ ob, Row (w.alloc ob) b o xs F') := zh (fun ob => hr.keep (((Ext.refl w).alloc ob).block b (hr.lt hne)) (fun k hk => ((Ext.refl w).alloc ob).block k (hr.inh k hk)))
  have HI : Hid (∀ k ∈ F', k < w.heap.size) := zh hr.inh
  clear hr
  go_enter Tryz.func246, Tryz.ntmps246
  go_wp2_with (at_builtin; refine wpl_app (α := Part) rfl _ _ 37 rfl 147 Tryz.underlying37 elPart (L := w.heap.size) (v := .slice (some ⟨w.heap.size, 0, none⟩) 0 0) (xs := []) (ys := xs) rfl (Oa.lit0 _ _) rfl rfl (HR.out _) (by omega) (fun k hk e => by cases e; exact absurd (HI.out _ hk) (Nat.lt_irrefl _)) (by simp; omega) (by simp) ?_; intro v' w' hO' hgr; have HO2 := zh hO'; have HQ2 := zh (Ext.grown ((Ext.refl w).alloc _) hgr (fun k hk => by cases hk; exact Nat.le_refl _)); clear hO' hgr; obtain ⟨ao2, co2, rfl, _⟩ := HO2.out.form)
  go_ret
  exact ⟨_, F', rfl, by simpa using HO2.out, fun b hb => by simp [hb], List.sublist_cons_self _ _, HQ2.out⟩
theorem slices_Clip_Part (n c : Nat) (w : World) (a : Option Addr) (hc : n ≤ c) (hl : c ≤ 9223372036854775807) :
  Calls Tryz.prog 245 #[.slice a n c] w fun e w' => e = .returned (.slice a n n) ∧ w = w' := by
 go_enter Tryz.func245, Tryz.ntmps245
 go_wp2
 go_ret
 exact ⟨rfl, rfl⟩
theorem impl_clone_Part (v : Value) (xs : List Part) (w : World) (F : List Nat) (h : Sl w v xs F) (hn : xs.length ≤ 100000000) :
  Calls Tryz.prog 218 #[v] w fun e w' => ∃ v' F', e = .returned v' ∧ Oh w.heap.size w' v' xs F' ∧ (∀ b ∈ F', b ∈ F) ∧ F'.Sublist F ∧ Ext w w' := by
 obtain ⟨a, c, rfl, hl⟩ := Rs.form ⟨F, h⟩
 have H := zh h
 clear h
 go_enter Tryz.func218, Tryz.ntmps218
 go_wp2_with fail
 refine (slices_Clone_Part _ _ _ _ H.out hn).mono ?_
 rintro e w1 ⟨v1, F1, rfl, ho, hF, hsub, he⟩
 obtain ⟨a1, c1, rfl, _⟩ := ho.form
 have hcp := ho.cap
 have HO := zh ho.oh
 have HX := zh (And.intro hF (And.intro hsub he))
 clear ho hF hsub he
 go_wp2_with fail
 refine (slices_Clip_Part _ _ _ _ hcp.1 hcp.2).mono ?_
 rintro e w2 ⟨rfl, rfl⟩
 go_wp2
 go_ret
 exact ⟨_, F1, rfl, HO.out, HX.out⟩
theorem elChannel : El Tryz.prog 150 Channel := El.of (z := .agg #[.int .i64 0, .int .i64 0, .int .i64 0, .int .i64 0]) (n := 4) (b := 32) (by kernel_rfl) rfl rfl (by decide)
theorem slices_Clone_Channel (v : Value) (xs : List Channel) (w : World) (F : List Nat) (h : Sl w v xs F) (hn : xs.length ≤ 100000000) :
  Calls Tryz.prog 248 #[v] w fun e w' => ∃ v' F', e = .returned v' ∧ Oa 150 w.heap.size w' v' xs F' ∧ (∀ b ∈ F', b ∈ F) ∧ F'.Sublist F ∧ Ext w w' := by
 have hnil : ∀ (a : Option Addr) (n c : Nat), (binOp .eql 38 (.slice a n c) (.slice none 0 0)).run Tryz.prog w = .ok (.bool a.isNone) w := fun a n c => Go.Lib.run_eql_slice_nil w 38 150 a n c 0 0 Tryz.underlying38
 obtain ⟨a, c, rfl, hl, hc, ⟨rfl, rfl⟩ | ⟨hne, b, o, F', rfl, rfl, hr⟩⟩ := h
 ·cases a with
  | none =>
   go_enter Tryz.func248, Tryz.ntmps248
   go_wp2
   go_ret
   exact ⟨_, [], rfl, Oa.nil _ _ _, by simp, by simp, Ext.refl _⟩
  | some p =>
   go_enter Tryz.func248, Tryz.ntmps248
   go_wp2
   go_ret
   exact ⟨_, [], rfl, Oa.lit0 _ _, by simp, by simp, (Ext.refl _).alloc _⟩
 ·have hpos : 0 < xs.length := List.length_pos_iff.2 hne
  have HR : Hid (∀ ob, Row (w.alloc ob) b o xs F') := zh (fun ob => hr.keep (((Ext.refl w).alloc ob).block b (hr.lt hne)) (fun k hk => ((Ext.refl w).alloc ob).block k (hr.inh k hk)))
  have HI : Hid (∀ k ∈ F', k < w.heap.size) := zh hr.inh
  clear hr
  go_enter Tryz.func248, Tryz.ntmps248
  go_wp2_with (at_builtin; refine wpl_app (α := Channel) rfl _ _ 38 rfl 150 Tryz.underlying38 elChannel (L := w.heap.size) (v := .slice (some ⟨w.heap.size, 0, none⟩) 0 0) (xs := []) (ys := xs) rfl (Oa.lit0 _ _) rfl rfl (HR.out _) (by omega) (fun k hk e => by cases e; exact absurd (HI.out _ hk) (Nat.lt_irrefl _)) (by simp; omega) (by simp) ?_; intro v' w' hO' hgr; have HO2 := zh hO'; have HQ2 := zh (Ext.grown ((Ext.refl w).alloc _) hgr (fun k hk => by cases hk; exact Nat.le_refl _)); clear hO' hgr; obtain ⟨ao2, co2, rfl, _⟩ := HO2.out.form)
  go_ret
  exact ⟨_, F', rfl, by simpa using HO2.out, fun b hb => by simp [hb], List.sublist_cons_self _ _, HQ2.out⟩
theorem slices_Clip_Channel (n c : Nat) (w : World) (a : Option Addr) (hc : n ≤ c) (hl : c ≤ 9223372036854775807) :
  Calls Tryz.prog 247 #[.slice a n c] w fun e w' => e = .returned (.slice a n n) ∧ w = w' := by
 go_enter Tryz.func247, Tryz.ntmps247
 go_wp2
 go_ret
 exact ⟨rfl, rfl⟩
theorem impl_clone_Channel (v : Value) (xs : List Channel) (w : World) (F : List Nat) (h : Sl w v xs F) (hn : xs.length ≤ 100000000) :
  Calls Tryz.prog 219 #[v] w fun e w' => ∃ v' F', e = .returned v' ∧ Oh w.heap.size w' v' xs F' ∧ (∀ b ∈ F', b ∈ F) ∧ F'.Sublist F ∧ Ext w w' := by
 obtain ⟨a, c, rfl, hl⟩ := Rs.form ⟨F, h⟩
 have H := zh h
 clear h
 go_enter Tryz.func219, Tryz.ntmps219
 go_wp2_with fail
 refine (slices_Clone_Channel _ _ _ _ H.out hn).mono ?_
 rintro e w1 ⟨v1, F1, rfl, ho, hF, hsub, he⟩
 obtain ⟨a1, c1, rfl, _⟩ := ho.form
 have hcp := ho.cap
 have HO := zh ho.oh
 have HX := zh (And.intro hF (And.intro hsub he))
 clear ho hF hsub he
 go_wp2_with fail
 refine (slices_Clip_Channel _ _ _ _ hcp.1 hcp.2).mono ?_
 rintro e w2 ⟨rfl, rfl⟩
 go_wp2
 go_ret
 exact ⟨_, F1, rfl, HO.out, HX.out⟩
theorem elSlot : El Tryz.prog 160 Slot := El.of (z := .agg #[.int .i64 0, .int .i64 0]) (n := 2) (b := 16) (by kernel_rfl) rfl rfl (by decide)
theorem slices_Clone_Slot (v : Value) (xs : List Slot) (w : World) (F : List Nat) (h : Sl w v xs F) (hn : xs.length ≤ 100000000) :
  Calls Tryz.prog 250 #[v] w fun e w' => ∃ v' F', e = .returned v' ∧ Oa 160 w.heap.size w' v' xs F' ∧ (∀ b ∈ F', b ∈ F) ∧ F'.Sublist F ∧ Ext w w' := by
 have hnil : ∀ (a : Option Addr) (n c : Nat), (binOp .eql 39 (.slice a n c) (.slice none 0 0)).run Tryz.prog w = .ok (.bool a.isNone) w := fun a n c => Go.Lib.run_eql_slice_nil w 39 160 a n c 0 0 Tryz.underlying39
 obtain ⟨a, c, rfl, hl, hc, ⟨rfl, rfl⟩ | ⟨hne, b, o, F', rfl, rfl, hr⟩⟩ := h
 ·cases a with
  | none =>
   go_enter Tryz.func250, Tryz.ntmps250
   go_wp2
   go_ret
   exact ⟨_, [], rfl, Oa.nil _ _ _, by simp, by simp, Ext.refl _⟩
  | some p =>
   go_enter Tryz.func250, Tryz.ntmps250
   go_wp2
   go_ret
   exact ⟨_, [], rfl, Oa.lit0 _ _, by simp, by simp, (Ext.refl _).alloc _⟩
 ·have hpos : 0 < xs.length := List.length_pos_iff.2 hne
  have HR : Hid (∀ ob, Row (w.alloc ob) b o xs F') := zh (fun ob => hr.keep (((Ext.refl w).alloc ob).block b (hr.lt hne)) (fun k hk => ((Ext.refl w).alloc ob).block k (hr.inh k hk)))
  have HI : Hid (∀ k ∈ F', k < w.heap.size) := zh hr.inh
  clear hr
  go_enter Tryz.func250, Tryz.ntmps250
  go_wp2_with (at_builtin; refine wpl_app (α := Slot) rfl _ _ 39 rfl 160 Tryz.underlying39 elSlot (L := w.heap.size) (v := .slice (some ⟨w.heap.size, 0, none⟩) 0 0) (xs := []) (ys := xs) rfl (Oa.lit0 _ _) rfl rfl (HR.out _) (by omega) (fun k hk e => by cases e; exact absurd (HI.out _ hk) (Nat.lt_irrefl _)) (by simp; omega) (by simp) ?_; intro v' w' hO' hgr; have HO2 := zh hO'; have HQ2 := zh (Ext.grown ((Ext.refl w).alloc _) hgr (fun k hk => by cases hk; exact Nat.le_refl _)); clear hO' hgr; obtain ⟨ao2, co2, rfl, _⟩ := HO2.out.form)
  go_ret
  exact ⟨_, F', rfl, by simpa using HO2.out, fun b hb => by simp [hb], List.sublist_cons_self _ _, HQ2.out⟩
theorem slices_Clip_Slot (n c : Nat) (w : World) (a : Option Addr) (hc : n ≤ c) (hl : c ≤ 9223372036854775807) :
  Calls Tryz.prog 249 #[.slice a n c] w fun e w' => e = .returned (.slice a n n) ∧ w = w' := by
 go_enter Tryz.func249, Tryz.ntmps249
 go_wp2
 go_ret
 exact ⟨rfl, rfl⟩
theorem impl_clone_Slot (v : Value) (xs : List Slot) (w : World) (F : List Nat) (h : Sl w v xs F) (hn : xs.length ≤ 100000000) :
  Calls Tryz.prog 220 #[v] w fun e w' => ∃ v' F', e = .returned v' ∧ Oh w.heap.size w' v' xs F' ∧ (∀ b ∈ F', b ∈ F) ∧ F'.Sublist F ∧ Ext w w' := by
 obtain ⟨a, c, rfl, hl⟩ := Rs.form ⟨F, h⟩
 have H := zh h
 clear h
 go_enter Tryz.func220, Tryz.ntmps220
 go_wp2_with fail
 refine (slices_Clone_Slot _ _ _ _ H.out hn).mono ?_
 rintro e w1 ⟨v1, F1, rfl, ho, hF, hsub, he⟩
 obtain ⟨a1, c1, rfl, _⟩ := ho.form
 have hcp := ho.cap
 have HO := zh ho.oh
 have HX := zh (And.intro hF (And.intro hsub he))
 clear ho hF hsub he
 go_wp2_with fail
 refine (slices_Clip_Slot _ _ _ _ hcp.1 hcp.2).mono ?_
 rintro e w2 ⟨rfl, rfl⟩
 go_wp2
 go_ret
 exact ⟨_, F1, rfl, HO.out, HX.out⟩
theorem elOrder : El Tryz.prog 142 Order := El.of (z := .agg #[.int .i64 0, .int .i64 0, .int .i64 0]) (n := 3) (b := 24) (by kernel_rfl) rfl rfl (by decide)
theorem slices_Clone_Order (v : Value) (xs : List Order) (w : World) (F : List Nat) (h : Sl w v xs F) (hn : xs.length ≤ 100000000) :
  Calls Tryz.prog 227 #[v] w fun e w' => ∃ v' F', e = .returned v' ∧ Oa 142 w.heap.size w' v' xs F' ∧ (∀ b ∈ F', b ∈ F) ∧ F'.Sublist F ∧ Ext w w' := by
 have hnil : ∀ (a : Option Addr) (n c : Nat), (binOp .eql 119 (.slice a n c) (.slice none 0 0)).run Tryz.prog w = .ok (.bool a.isNone) w := fun a n c => Go.Lib.run_eql_slice_nil w 119 142 a n c 0 0 Tryz.underlying119
 obtain ⟨a, c, rfl, hl, hc, ⟨rfl, rfl⟩ | ⟨hne, b, o, F', rfl, rfl, hr⟩⟩ := h
 ·cases a with
  | none =>
   go_enter Tryz.func227, Tryz.ntmps227
   go_wp2
   go_ret
   exact ⟨_, [], rfl, Oa.nil _ _ _, by simp, by simp, Ext.refl _⟩
  | some p =>
   go_enter Tryz.func227, Tryz.ntmps227
   go_wp2
   go_ret
   exact ⟨_, [], rfl, Oa.lit0 _ _, by simp, by simp, (Ext.refl _).alloc _⟩
 ·have hpos : 0 < xs.length := List.length_pos_iff.2 hne
  have HR : Hid (∀ ob, Row (w.alloc ob) b o xs F') := zh (fun ob => hr.keep (((Ext.refl w).alloc ob).block b (hr.lt hne)) (fun k hk => ((Ext.refl w).alloc ob).block k (hr.inh k hk)))
  have HI : Hid (∀ k ∈ F', k < w.heap.size) := zh hr.inh
  clear hr
  go_enter Tryz.func227, Tryz.ntmps227
  go_wp2_with (at_builtin; refine wpl_app (α := Order) rfl _ _ 119 rfl 142 Tryz.underlying119 elOrder (L := w.heap.size) (v := .slice (some ⟨w.heap.size, 0, none⟩) 0 0) (xs := []) (ys := xs) rfl (Oa.lit0 _ _) rfl rfl (HR.out _) (by omega) (fun k hk e => by cases e; exact absurd (HI.out _ hk) (Nat.lt_irrefl _)) (by simp; omega) (by simp) ?_; intro v' w' hO' hgr; have HO2 := zh hO'; have HQ2 := zh (Ext.grown ((Ext.refl w).alloc _) hgr (fun k hk => by cases hk; exact Nat.le_refl _)); clear hO' hgr; obtain ⟨ao2, co2, rfl, _⟩ := HO2.out.form)
  go_ret
  exact ⟨_, F', rfl, by simpa using HO2.out, fun b hb => by simp [hb], List.sublist_cons_self _ _, HQ2.out⟩
theorem slices_Clip_Order (n c : Nat) (w : World) (a : Option Addr) (hc : n ≤ c) (hl : c ≤ 9223372036854775807) :
  Calls Tryz.prog 226 #[.slice a n c] w fun e w' => e = .returned (.slice a n n) ∧ w = w' := by
 go_enter Tryz.func226, Tryz.ntmps226
 go_wp2
 go_ret
 exact ⟨rfl, rfl⟩
theorem impl_clone_Order (v : Value) (xs : List Order) (w : World) (F : List Nat) (h : Sl w v xs F) (hn : xs.length ≤ 100000000) :
  Calls Tryz.prog 181 #[v] w fun e w' => ∃ v' F', e = .returned v' ∧ Oh w.heap.size w' v' xs F' ∧ (∀ b ∈ F', b ∈ F) ∧ F'.Sublist F ∧ Ext w w' := by
 obtain ⟨a, c, rfl, hl⟩ := Rs.form ⟨F, h⟩
 have H := zh h
 clear h
 go_enter Tryz.func181, Tryz.ntmps181
 go_wp2_with fail
 refine (slices_Clone_Order _ _ _ _ H.out hn).mono ?_
 rintro e w1 ⟨v1, F1, rfl, ho, hF, hsub, he⟩
 obtain ⟨a1, c1, rfl, _⟩ := ho.form
 have hcp := ho.cap
 have HO := zh ho.oh
 have HX := zh (And.intro hF (And.intro hsub he))
 clear ho hF hsub he
 go_wp2_with fail
 refine (slices_Clip_Order _ _ _ _ hcp.1 hcp.2).mono ?_
 rintro e w2 ⟨rfl, rfl⟩
 go_wp2
 go_ret
 exact ⟨_, F1, rfl, HO.out, HX.out⟩
theorem elOrderS : El Tryz.prog 119 (List Order) := El.of (z := .slice none 0 0) (n := 1) (b := 24) (by kernel_rfl) rfl rfl (by decide)
theorem slices_Clone_OrderS (v : Value) (xs : List (List Order)) (w : World) (F : List Nat) (h : Sl w v xs F) (hn : xs.length ≤ 100000000) :
  Calls Tryz.prog 223 #[v] w fun e w' => ∃ v' F', e = .returned v' ∧ Oa 119 w.heap.size w' v' xs F' ∧ (∀ b ∈ F', b ∈ F) ∧ F'.Sublist F ∧ Ext w w' := by
 have hnil : ∀ (a : Option Addr) (n c : Nat), (binOp .eql 42 (.slice a n c) (.slice none 0 0)).run Tryz.prog w = .ok (.bool a.isNone) w := fun a n c => Go.Lib.run_eql_slice_nil w 42 119 a n c 0 0 Tryz.underlying42
 obtain ⟨a, c, rfl, hl, hc, ⟨rfl, rfl⟩ | ⟨hne, b, o, F', rfl, rfl, hr⟩⟩ := h
 ·cases a with
  | none =>
   go_enter Tryz.func223, Tryz.ntmps223
   go_wp2
   go_ret
   exact ⟨_, [], rfl, Oa.nil _ _ _, by simp, by simp, Ext.refl _⟩
  | some p =>
   go_enter Tryz.func223, Tryz.ntmps223
   go_wp2
   go_ret
   exact ⟨_, [], rfl, Oa.lit0 _ _, by simp, by simp, (Ext.refl _).alloc _⟩
 ·have hpos : 0 < xs.length := List.length_pos_iff.2 hne
  have HR : Hid (∀ ob, Row (w.alloc ob) b o xs F') := zh (fun ob => hr.keep (((Ext.refl w).alloc ob).block b (hr.lt hne)) (fun k hk => ((Ext.refl w).alloc ob).block k (hr.inh k hk)))
  have HI : Hid (∀ k ∈ F', k < w.heap.size) := zh hr.inh
  clear hr
  go_enter Tryz.func223, Tryz.ntmps223
  go_wp2_with (at_builtin; refine wpl_app (α := (List Order)) rfl _ _ 42 rfl 119 Tryz.underlying42 elOrderS (L := w.heap.size) (v := .slice (some ⟨w.heap.size, 0, none⟩) 0 0) (xs := []) (ys := xs) rfl (Oa.lit0 _ _) rfl rfl (HR.out _) (by omega) (fun k hk e => by cases e; exact absurd (HI.out _ hk) (Nat.lt_irrefl _)) (by simp; omega) (by simp) ?_; intro v' w' hO' hgr; have HO2 := zh hO'; have HQ2 := zh (Ext.grown ((Ext.refl w).alloc _) hgr (fun k hk => by cases hk; exact Nat.le_refl _)); clear hO' hgr; obtain ⟨ao2, co2, rfl, _⟩ := HO2.out.form)
  go_ret
  exact ⟨_, F', rfl, by simpa using HO2.out, fun b hb => by simp [hb], List.sublist_cons_self _ _, HQ2.out⟩
theorem slices_Clip_OrderS (n c : Nat) (w : World) (a : Option Addr) (hc : n ≤ c) (hl : c ≤ 9223372036854775807) :
  Calls Tryz.prog 222 #[.slice a n c] w fun e w' => e = .returned (.slice a n n) ∧ w = w' := by
 go_enter Tryz.func222, Tryz.ntmps222
 go_wp2
 go_ret
 exact ⟨rfl, rfl⟩
theorem impl_clone_OrderS (v : Value) (xs : List (List Order)) (w : World) (F : List Nat) (h : Sl w v xs F) (hn : xs.length ≤ 100000000) :
  Calls Tryz.prog 179 #[v] w fun e w' => ∃ v' F', e = .returned v' ∧ Oh w.heap.size w' v' xs F' ∧ (∀ b ∈ F', b ∈ F) ∧ F'.Sublist F ∧ Ext w w' := by
 obtain ⟨a, c, rfl, hl⟩ := Rs.form ⟨F, h⟩
 have H := zh h
 clear h
 go_enter Tryz.func179, Tryz.ntmps179
 go_wp2_with fail
 refine (slices_Clone_OrderS _ _ _ _ H.out hn).mono ?_
 rintro e w1 ⟨v1, F1, rfl, ho, hF, hsub, he⟩
 obtain ⟨a1, c1, rfl, _⟩ := ho.form
 have hcp := ho.cap
 have HO := zh ho.oh
 have HX := zh (And.intro hF (And.intro hsub he))
 clear ho hF hsub he
 go_wp2_with fail
 refine (slices_Clip_OrderS _ _ _ _ hcp.1 hcp.2).mono ?_
 rintro e w2 ⟨rfl, rfl⟩
 go_wp2
 go_ret
 exact ⟨_, F1, rfl, HO.out, HX.out⟩
theorem elCore : El Tryz.prog 91 Core := El.of (z := .agg #[.slice none 0 0, .int .i64 0, .bool false]) (n := 3) (b := 40) (by kernel_rfl) rfl rfl (by decide)
theorem slices_Clone_Core (v : Value) (xs : List Core) (w : World) (F : List Nat) (h : Sl w v xs F) (hn : xs.length ≤ 100000000) :
  Calls Tryz.prog 204 #[v] w fun e w' => ∃ v' F', e = .returned v' ∧ Oa 91 w.heap.size w' v' xs F' ∧ (∀ b ∈ F', b ∈ F) ∧ F'.Sublist F ∧ Ext w w' := by
 have hnil : ∀ (a : Option Addr) (n c : Nat), (binOp .eql 43 (.slice a n c) (.slice none 0 0)).run Tryz.prog w = .ok (.bool a.isNone) w := fun a n c => Go.Lib.run_eql_slice_nil w 43 91 a n c 0 0 Tryz.underlying43
 obtain ⟨a, c, rfl, hl, hc, ⟨rfl, rfl⟩ | ⟨hne, b, o, F', rfl, rfl, hr⟩⟩ := h
 ·cases a with
  | none =>
   go_enter Tryz.func204, Tryz.ntmps204
   go_wp2
   go_ret
   exact ⟨_, [], rfl, Oa.nil _ _ _, by simp, by simp, Ext.refl _⟩
  | some p =>
   go_enter Tryz.func204, Tryz.ntmps204
   go_wp2
   go_ret
   exact ⟨_, [], rfl, Oa.lit0 _ _, by simp, by simp, (Ext.refl _).alloc _⟩
 ·have hpos : 0 < xs.length := List.length_pos_iff.2 hne
  have HR : Hid (∀ ob, Row (w.alloc ob) b o xs F') := zh (fun ob => hr.keep (((Ext.refl w).alloc ob).block b (hr.lt hne)) (fun k hk => ((Ext.refl w).alloc ob).block k (hr.inh k hk)))
  have HI : Hid (∀ k ∈ F', k < w.heap.size) := zh hr.inh
  clear hr
  go_enter Tryz.func204, Tryz.ntmps204
  go_wp2_with (at_builtin; refine wpl_app (α := Core) rfl _ _ 43 rfl 91 Tryz.underlying43 elCore (L := w.heap.size) (v := .slice (some ⟨w.heap.size, 0, none⟩) 0 0) (xs := []) (ys := xs) rfl (Oa.lit0 _ _) rfl rfl (HR.out _) (by omega) (fun k hk e => by cases e; exact absurd (HI.out _ hk) (Nat.lt_irrefl _)) (by simp; omega) (by simp) ?_; intro v' w' hO' hgr; have HO2 := zh hO'; have HQ2 := zh (Ext.grown ((Ext.refl w).alloc _) hgr (fun k hk => by cases hk; exact Nat.le_refl _)); clear hO' hgr; obtain ⟨ao2, co2, rfl, _⟩ := HO2.out.form)
  go_ret
  exact ⟨_, F', rfl, by simpa using HO2.out, fun b hb => by simp [hb], List.sublist_cons_self _ _, HQ2.out⟩
theorem slices_Clip_Core (n c : Nat) (w : World) (a : Option Addr) (hc : n ≤ c) (hl : c ≤ 9223372036854775807) :
  Calls Tryz.prog 203 #[.slice a n c] w fun e w' => e = .returned (.slice a n n) ∧ w = w' := by
 go_enter Tryz.func203, Tryz.ntmps203
 go_wp2
 go_ret
 exact ⟨rfl, rfl⟩
theorem impl_clone_Core (v : Value) (xs : List Core) (w : World) (F : List Nat) (h : Sl w v xs F) (hn : xs.length ≤ 100000000) :
  Calls Tryz.prog 149 #[v] w fun e w' => ∃ v' F', e = .returned v' ∧ Oh w.heap.size w' v' xs F' ∧ (∀ b ∈ F', b ∈ F) ∧ F'.Sublist F ∧ Ext w w' := by
 obtain ⟨a, c, rfl, hl⟩ := Rs.form ⟨F, h⟩
 have H := zh h
 clear h
 go_enter Tryz.func149, Tryz.ntmps149
 go_wp2_with fail
 refine (slices_Clone_Core _ _ _ _ H.out hn).mono ?_
 rintro e w1 ⟨v1, F1, rfl, ho, hF, hsub, he⟩
 obtain ⟨a1, c1, rfl, _⟩ := ho.form
 have hcp := ho.cap
 have HO := zh ho.oh
 have HX := zh (And.intro hF (And.intro hsub he))
 clear ho hF hsub he
 go_wp2_with fail
 refine (slices_Clip_Core _ _ _ _ hcp.1 hcp.2).mono ?_
 rintro e w2 ⟨rfl, rfl⟩
 go_wp2
 go_ret
 exact ⟨_, F1, rfl, HO.out, HX.out⟩
theorem elHold : El Tryz.prog 121 Hold := El.of (z := .agg #[.slice none 0 0]) (n := 1) (b := 24) (by kernel_rfl) rfl rfl (by decide)
theorem slices_Clone_Hold (v : Value) (xs : List Hold) (w : World) (F : List Nat) (h : Sl w v xs F) (hn : xs.length ≤ 100000000) :
  Calls Tryz.prog 225 #[v] w fun e w' => ∃ v' F', e = .returned v' ∧ Oa 121 w.heap.size w' v' xs F' ∧ (∀ b ∈ F', b ∈ F) ∧ F'.Sublist F ∧ Ext w w' := by
 have hnil : ∀ (a : Option Addr) (n c : Nat), (binOp .eql 44 (.slice a n c) (.slice none 0 0)).run Tryz.prog w = .ok (.bool a.isNone) w := fun a n c => Go.Lib.run_eql_slice_nil w 44 121 a n c 0 0 Tryz.underlying44
 obtain ⟨a, c, rfl, hl, hc, ⟨rfl, rfl⟩ | ⟨hne, b, o, F', rfl, rfl, hr⟩⟩ := h
 ·cases a with
  | none =>
   go_enter Tryz.func225, Tryz.ntmps225
   go_wp2
   go_ret
   exact ⟨_, [], rfl, Oa.nil _ _ _, by simp, by simp, Ext.refl _⟩
  | some p =>
   go_enter Tryz.func225, Tryz.ntmps225
   go_wp2
   go_ret
   exact ⟨_, [], rfl, Oa.lit0 _ _, by simp, by simp, (Ext.refl _).alloc _⟩
 ·have hpos : 0 < xs.length := List.length_pos_iff.2 hne
  have HR : Hid (∀ ob, Row (w.alloc ob) b o xs F') := zh (fun ob => hr.keep (((Ext.refl w).alloc ob).block b (hr.lt hne)) (fun k hk => ((Ext.refl w).alloc ob).block k (hr.inh k hk)))
  have HI : Hid (∀ k ∈ F', k < w.heap.size) := zh hr.inh
  clear hr
  go_enter Tryz.func225, Tryz.ntmps225
  go_wp2_with (at_builtin; refine wpl_app (α := Hold) rfl _ _ 44 rfl 121 Tryz.underlying44 elHold (L := w.heap.size) (v := .slice (some ⟨w.heap.size, 0, none⟩) 0 0) (xs := []) (ys := xs) rfl (Oa.lit0 _ _) rfl rfl (HR.out _) (by omega) (fun k hk e => by cases e; exact absurd (HI.out _ hk) (Nat.lt_irrefl _)) (by simp; omega) (by simp) ?_; intro v' w' hO' hgr; have HO2 := zh hO'; have HQ2 := zh (Ext.grown ((Ext.refl w).alloc _) hgr (fun k hk => by cases hk; exact Nat.le_refl _)); clear hO' hgr; obtain ⟨ao2, co2, rfl, _⟩ := HO2.out.form)
  go_ret
  exact ⟨_, F', rfl, by simpa using HO2.out, fun b hb => by simp [hb], List.sublist_cons_self _ _, HQ2.out⟩
theorem slices_Clip_Hold (n c : Nat) (w : World) (a : Option Addr) (hc : n ≤ c) (hl : c ≤ 9223372036854775807) :
  Calls Tryz.prog 224 #[.slice a n c] w fun e w' => e = .returned (.slice a n n) ∧ w = w' := by
 go_enter Tryz.func224, Tryz.ntmps224
 go_wp2
 go_ret
 exact ⟨rfl, rfl⟩
theorem impl_clone_Hold (v : Value) (xs : List Hold) (w : World) (F : List Nat) (h : Sl w v xs F) (hn : xs.length ≤ 100000000) :
  Calls Tryz.prog 180 #[v] w fun e w' => ∃ v' F', e = .returned v' ∧ Oh w.heap.size w' v' xs F' ∧ (∀ b ∈ F', b ∈ F) ∧ F'.Sublist F ∧ Ext w w' := by
 obtain ⟨a, c, rfl, hl⟩ := Rs.form ⟨F, h⟩
 have H := zh h
 clear h
 go_enter Tryz.func180, Tryz.ntmps180
 go_wp2_with fail
 refine (slices_Clone_Hold _ _ _ _ H.out hn).mono ?_
 rintro e w1 ⟨v1, F1, rfl, ho, hF, hsub, he⟩
 obtain ⟨a1, c1, rfl, _⟩ := ho.form
 have hcp := ho.cap
 have HO := zh ho.oh
 have HX := zh (And.intro hF (And.intro hsub he))
 clear ho hF hsub he
 go_wp2_with fail
 refine (slices_Clip_Hold _ _ _ _ hcp.1 hcp.2).mono ?_
 rintro e w2 ⟨rfl, rfl⟩
 go_wp2
 go_ret
 exact ⟨_, F1, rfl, HO.out, HX.out⟩
theorem elHealth : El Tryz.prog 116 Health := El.of (z := .agg #[.bool false, .int .i64 0]) (n := 2) (b := 16) (by kernel_rfl) rfl rfl (by decide)
theorem slices_Clone_Health (v : Value) (xs : List Health) (w : World) (F : List Nat) (h : Sl w v xs F) (hn : xs.length ≤ 100000000) :
  Calls Tryz.prog 202 #[v] w fun e w' => ∃ v' F', e = .returned v' ∧ Oa 116 w.heap.size w' v' xs F' ∧ (∀ b ∈ F', b ∈ F) ∧ F'.Sublist F ∧ Ext w w' := by
 have hnil : ∀ (a : Option Addr) (n c : Nat), (binOp .eql 47 (.slice a n c) (.slice none 0 0)).run Tryz.prog w = .ok (.bool a.isNone) w := fun a n c => Go.Lib.run_eql_slice_nil w 47 116 a n c 0 0 Tryz.underlying47
 obtain ⟨a, c, rfl, hl, hc, ⟨rfl, rfl⟩ | ⟨hne, b, o, F', rfl, rfl, hr⟩⟩ := h
 ·cases a with
  | none =>
   go_enter Tryz.func202, Tryz.ntmps202
   go_wp2
   go_ret
   exact ⟨_, [], rfl, Oa.nil _ _ _, by simp, by simp, Ext.refl _⟩
  | some p =>
   go_enter Tryz.func202, Tryz.ntmps202
   go_wp2
   go_ret
   exact ⟨_, [], rfl, Oa.lit0 _ _, by simp, by simp, (Ext.refl _).alloc _⟩
 ·have hpos : 0 < xs.length := List.length_pos_iff.2 hne
  have HR : Hid (∀ ob, Row (w.alloc ob) b o xs F') := zh (fun ob => hr.keep (((Ext.refl w).alloc ob).block b (hr.lt hne)) (fun k hk => ((Ext.refl w).alloc ob).block k (hr.inh k hk)))
  have HI : Hid (∀ k ∈ F', k < w.heap.size) := zh hr.inh
  clear hr
  go_enter Tryz.func202, Tryz.ntmps202
  go_wp2_with (at_builtin; refine wpl_app (α := Health) rfl _ _ 47 rfl 116 Tryz.underlying47 elHealth (L := w.heap.size) (v := .slice (some ⟨w.heap.size, 0, none⟩) 0 0) (xs := []) (ys := xs) rfl (Oa.lit0 _ _) rfl rfl (HR.out _) (by omega) (fun k hk e => by cases e; exact absurd (HI.out _ hk) (Nat.lt_irrefl _)) (by simp; omega) (by simp) ?_; intro v' w' hO' hgr; have HO2 := zh hO'; have HQ2 := zh (Ext.grown ((Ext.refl w).alloc _) hgr (fun k hk => by cases hk; exact Nat.le_refl _)); clear hO' hgr; obtain ⟨ao2, co2, rfl, _⟩ := HO2.out.form)
  go_ret
  exact ⟨_, F', rfl, by simpa using HO2.out, fun b hb => by simp [hb], List.sublist_cons_self _ _, HQ2.out⟩
theorem slices_Clip_Health (n c : Nat) (w : World) (a : Option Addr) (hc : n ≤ c) (hl : c ≤ 9223372036854775807) :
  Calls Tryz.prog 201 #[.slice a n c] w fun e w' => e = .returned (.slice a n n) ∧ w = w' := by
 go_enter Tryz.func201, Tryz.ntmps201
 go_wp2
 go_ret
 exact ⟨rfl, rfl⟩
theorem impl_clone_Health (v : Value) (xs : List Health) (w : World) (F : List Nat) (h : Sl w v xs F) (hn : xs.length ≤ 100000000) :
  Calls Tryz.prog 148 #[v] w fun e w' => ∃ v' F', e = .returned v' ∧ Oh w.heap.size w' v' xs F' ∧ (∀ b ∈ F', b ∈ F) ∧ F'.Sublist F ∧ Ext w w' := by
 obtain ⟨a, c, rfl, hl⟩ := Rs.form ⟨F, h⟩
 have H := zh h
 clear h
 go_enter Tryz.func148, Tryz.ntmps148
 go_wp2_with fail
 refine (slices_Clone_Health _ _ _ _ H.out hn).mono ?_
 rintro e w1 ⟨v1, F1, rfl, ho, hF, hsub, he⟩
 obtain ⟨a1, c1, rfl, _⟩ := ho.form
 have hcp := ho.cap
 have HO := zh ho.oh
 have HX := zh (And.intro hF (And.intro hsub he))
 clear ho hF hsub he
 go_wp2_with fail
 refine (slices_Clip_Health _ _ _ _ hcp.1 hcp.2).mono ?_
 rintro e w2 ⟨rfl, rfl⟩
 go_wp2
 go_ret
 exact ⟨_, F1, rfl, HO.out, HX.out⟩
end Sk
