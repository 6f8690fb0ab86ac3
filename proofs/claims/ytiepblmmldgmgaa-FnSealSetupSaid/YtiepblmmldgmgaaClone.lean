/- Contracts of functions of the given program, and lemmas for them: each theorem states the condition under which it holds. -/
import Derived.Test.YtiepblmmldgmgaaChecked
import Derived.Lib.SliceRun
import Derived.Test.YtiepblmmldgmgaaApp
import Derived.Test.YtiepblmmldgmgaaNums
namespace Sk
open Go Go.Proofs Go.RowKit
set_option maxHeartbeats 400000
set_option maxRecDepth 100000
set_option linter.unusedVariables false
set_option linter.unusedSimpArgs false
/-- A list whose own block is new; its elements lie in F. -/
def Oh {α : Type} [GT α] (L : Nat) (w : World) (v : Value) (xs : List α) (F : List Nat) : Prop :=
  (v = .slice none 0 0 ∧ xs = [] ∧ F = []) ∨ ∃ g, v = .slice (some ⟨g, 0, none⟩) xs.length xs.length ∧ L ≤ g ∧ Fz w g ∧ xs.length ≤ maxLen ∧ Row w g 0 xs F ∧ g ∉ F
theorem Oa.oh {α : Type} [GT α] {e : TypeId} {L : Nat} {w : World} {a : Option Addr} {n c : Nat} {xs : List α} {F : List Nat} (h : Oa e L w (.slice a n c) xs F) : Oh L w (.slice a n n) xs F := by
  rcases h with ⟨h, rfl, rfl⟩ | ⟨g, cap, cur, h, hL, hg, hl, hc, hs, hr, hn⟩
  · cases h; exact .inl ⟨rfl, rfl, rfl⟩
  · cases h; exact .inr ⟨g, rfl, hL, ⟨_, _, Bk.ofA hg⟩, Nat.le_trans hl hc, hr, hn⟩
theorem Oh.os {α : Type} [GT α] {L : Nat} {w : World} {v : Value} {xs : List α} (h : Oh L w v xs []) : Os L w v xs := by
  rcases h with ⟨rfl, rfl, _⟩ | ⟨g, rfl, hL, hz, hl, hr, _⟩
  · exact ⟨[], ⟨none, 0, rfl, Nat.le_refl _, Nat.zero_le _, .inl ⟨rfl, rfl⟩⟩, Own.nil _ _⟩
  · by_cases hx : xs = []
    · subst hx; exact ⟨[], ⟨some ⟨g, 0, none⟩, 0, rfl, Nat.le_refl _, Nat.zero_le _, .inl ⟨rfl, rfl⟩⟩, Own.nil _ _⟩
    · exact ⟨[g], ⟨_, _, rfl, Nat.le_refl _, hl, .inr ⟨hx, g, 0, [], rfl, rfl, hr⟩⟩, by simp, fun b hb => by rw [List.mem_singleton] at hb; subst hb; exact ⟨hL, hz⟩⟩
theorem slices_Clone_Int (v : Value) (xs : List Int) (w : World) (F : List Nat) (h : Sl w v xs F) (hn : xs.length ≤ 100000000) :
    Calls Try.prog 87 #[v] w fun e w' => ∃ v' F', e = .returned v' ∧ Oa 3 w.heap.size w' v' xs F' ∧ (∀ b ∈ F', b ∈ F) ∧ F'.Sublist F ∧ Ext w w' := by
  have hnil : ∀ (a : Option Addr) (n c : Nat), (binOp .eql 29 (.slice a n c) (.slice none 0 0)).run Try.prog w = .ok (.bool a.isNone) w := fun a n c => Go.Lib.run_eql_slice_nil w 29 3 a n c 0 0 Try.underlying29
  obtain ⟨a, c, rfl, hl, hc, ⟨rfl, rfl⟩ | ⟨hne, b, o, F', rfl, rfl, hr⟩⟩ := h
  · cases a with
    | none =>
      go_enter Try.func87, Try.ntmps87
      go_wp2
      go_ret
      exact ⟨_, [], rfl, Oa.nil _ _ _, by simp, by simp, Ext.refl _⟩
    | some p =>
      go_enter Try.func87, Try.ntmps87
      go_wp2
      go_ret
      exact ⟨_, [], rfl, Oa.lit0 _ _, by simp, by simp, (Ext.refl _).alloc _⟩
  · have hpos : 0 < xs.length := List.length_pos_iff.2 hne
    have HR : Hid (∀ ob, Row (w.alloc ob) b o xs F') := Lib.hid (fun ob => hr.keep (((Ext.refl w).alloc ob).block b (hr.lt hne)) (fun k hk => ((Ext.refl w).alloc ob).block k (hr.inh k hk)))
    have HI : Hid (∀ k ∈ F', k < w.heap.size) := Lib.hid hr.inh
    clear hr
    go_enter Try.func87, Try.ntmps87
    go_wp2_with (at_builtin; refine wpl_app (α := Int) rfl _ _ 29 rfl 3 Try.underlying29 elInt (L := w.heap.size) (v := .slice (some ⟨w.heap.size, 0, none⟩) 0 0) (xs := []) (ys := xs) rfl (Oa.lit0 _ _) rfl rfl (HR.out _) (by omega) (fun k hk e => by cases e; exact absurd (HI.out _ hk) (Nat.lt_irrefl _)) (by simp; omega) (by simp) ?_; intro v' w' hO' hgr; have HO2 := Lib.hid hO'; have HQ2 := Lib.hid (Ext.grown ((Ext.refl w).alloc _) hgr (fun k hk => by cases hk; exact Nat.le_refl _)); clear hO' hgr; obtain ⟨ao2, co2, rfl, _⟩ := HO2.out.form)
    go_ret
    exact ⟨_, F', rfl, by simpa using HO2.out, fun b hb => by simp [hb], List.sublist_cons_self _ _, HQ2.out⟩
theorem impl_clone_Int (v : Value) (xs : List Int) (w : World) (F : List Nat) (h : Sl w v xs F) (hn : xs.length ≤ 100000000) :
    Calls Try.prog 59 #[v] w fun e w' => ∃ v' F', e = .returned v' ∧ Oh w.heap.size w' v' xs F' ∧ (∀ b ∈ F', b ∈ F) ∧ F'.Sublist F ∧ Ext w w' := by
  obtain ⟨a, c, rfl, hl⟩ := Rs.form ⟨F, h⟩
  have H := Lib.hid h
  clear h
  go_enter Try.func59, Try.ntmps59
  go_wp2_with fail
  refine (slices_Clone_Int _ _ _ _ H.out hn).mono ?_
  rintro e w1 ⟨v1, F1, rfl, ho, hF, hsub, he⟩
  obtain ⟨a1, c1, rfl, _⟩ := ho.form
  have hcp := ho.cap
  have HO := Lib.hid ho.oh
  have HX := Lib.hid (And.intro hF (And.intro hsub he))
  clear ho hF hsub he
  go_wp2_with fail
  refine (slices_Clip_int _ xs _ _ _ rfl hcp.1 hcp.2).mono ?_
  rintro e w2 ⟨rfl, rfl⟩
  go_wp2
  go_ret
  exact ⟨_, F1, rfl, HO.out, HX.out⟩
theorem elWindow : El Try.prog 60 Window := El.of (z := .agg #[.int .i64 0, .int .i64 0, .bool false]) (n := 3) (b := 24) (by kernel_rfl) rfl rfl (by decide)
theorem slices_Clone_Window (v : Value) (xs : List Window) (w : World) (F : List Nat) (h : Sl w v xs F) (hn : xs.length ≤ 100000000) :
    Calls Try.prog 100 #[v] w fun e w' => ∃ v' F', e = .returned v' ∧ Oa 60 w.heap.size w' v' xs F' ∧ (∀ b ∈ F', b ∈ F) ∧ F'.Sublist F ∧ Ext w w' := by
  have hnil : ∀ (a : Option Addr) (n c : Nat), (binOp .eql 56 (.slice a n c) (.slice none 0 0)).run Try.prog w = .ok (.bool a.isNone) w := fun a n c => Go.Lib.run_eql_slice_nil w 56 60 a n c 0 0 Try.underlying56
  obtain ⟨a, c, rfl, hl, hc, ⟨rfl, rfl⟩ | ⟨hne, b, o, F', rfl, rfl, hr⟩⟩ := h
  · cases a with
    | none =>
      go_enter Try.func100, Try.ntmps100
      go_wp2
      go_ret
      exact ⟨_, [], rfl, Oa.nil _ _ _, by simp, by simp, Ext.refl _⟩
    | some p =>
      go_enter Try.func100, Try.ntmps100
      go_wp2
      go_ret
      exact ⟨_, [], rfl, Oa.lit0 _ _, by simp, by simp, (Ext.refl _).alloc _⟩
  · have hpos : 0 < xs.length := List.length_pos_iff.2 hne
    have HR : Hid (∀ ob, Row (w.alloc ob) b o xs F') := Lib.hid (fun ob => hr.keep (((Ext.refl w).alloc ob).block b (hr.lt hne)) (fun k hk => ((Ext.refl w).alloc ob).block k (hr.inh k hk)))
    have HI : Hid (∀ k ∈ F', k < w.heap.size) := Lib.hid hr.inh
    clear hr
    go_enter Try.func100, Try.ntmps100
    go_wp2_with (at_builtin; refine wpl_app (α := Window) rfl _ _ 56 rfl 60 Try.underlying56 elWindow (L := w.heap.size) (v := .slice (some ⟨w.heap.size, 0, none⟩) 0 0) (xs := []) (ys := xs) rfl (Oa.lit0 _ _) rfl rfl (HR.out _) (by omega) (fun k hk e => by cases e; exact absurd (HI.out _ hk) (Nat.lt_irrefl _)) (by simp; omega) (by simp) ?_; intro v' w' hO' hgr; have HO2 := Lib.hid hO'; have HQ2 := Lib.hid (Ext.grown ((Ext.refl w).alloc _) hgr (fun k hk => by cases hk; exact Nat.le_refl _)); clear hO' hgr; obtain ⟨ao2, co2, rfl, _⟩ := HO2.out.form)
    go_ret
    exact ⟨_, F', rfl, by simpa using HO2.out, fun b hb => by simp [hb], List.sublist_cons_self _ _, HQ2.out⟩
theorem slices_Clip_Window (n c : Nat) (w : World) (a : Option Addr) (hc : n ≤ c) (hl : c ≤ 9223372036854775807) :
    Calls Try.prog 99 #[.slice a n c] w fun e w' => e = .returned (.slice a n n) ∧ w = w' := by
  go_enter Try.func99, Try.ntmps99
  go_wp2
  go_ret
  exact ⟨rfl, rfl⟩
theorem impl_clone_Window (v : Value) (xs : List Window) (w : World) (F : List Nat) (h : Sl w v xs F) (hn : xs.length ≤ 100000000) :
    Calls Try.prog 76 #[v] w fun e w' => ∃ v' F', e = .returned v' ∧ Oh w.heap.size w' v' xs F' ∧ (∀ b ∈ F', b ∈ F) ∧ F'.Sublist F ∧ Ext w w' := by
  obtain ⟨a, c, rfl, hl⟩ := Rs.form ⟨F, h⟩
  have H := Lib.hid h
  clear h
  go_enter Try.func76, Try.ntmps76
  go_wp2_with fail
  refine (slices_Clone_Window _ _ _ _ H.out hn).mono ?_
  rintro e w1 ⟨v1, F1, rfl, ho, hF, hsub, he⟩
  obtain ⟨a1, c1, rfl, _⟩ := ho.form
  have hcp := ho.cap
  have HO := Lib.hid ho.oh
  have HX := Lib.hid (And.intro hF (And.intro hsub he))
  clear ho hF hsub he
  go_wp2_with fail
  refine (slices_Clip_Window _ _ _ _ hcp.1 hcp.2).mono ?_
  rintro e w2 ⟨rfl, rfl⟩
  go_wp2
  go_ret
  exact ⟨_, F1, rfl, HO.out, HX.out⟩
theorem elPart : El Try.prog 58 Part := El.of (z := .agg #[.slice none 0 0, .int .i64 0]) (n := 2) (b := 32) (by kernel_rfl) rfl rfl (by decide)
theorem slices_Clone_Part (v : Value) (xs : List Part) (w : World) (F : List Nat) (h : Sl w v xs F) (hn : xs.length ≤ 100000000) :
    Calls Try.prog 94 #[v] w fun e w' => ∃ v' F', e = .returned v' ∧ Oa 58 w.heap.size w' v' xs F' ∧ (∀ b ∈ F', b ∈ F) ∧ F'.Sublist F ∧ Ext w w' := by
  have hnil : ∀ (a : Option Addr) (n c : Nat), (binOp .eql 23 (.slice a n c) (.slice none 0 0)).run Try.prog w = .ok (.bool a.isNone) w := fun a n c => Go.Lib.run_eql_slice_nil w 23 58 a n c 0 0 Try.underlying23
  obtain ⟨a, c, rfl, hl, hc, ⟨rfl, rfl⟩ | ⟨hne, b, o, F', rfl, rfl, hr⟩⟩ := h
  · cases a with
    | none =>
      go_enter Try.func94, Try.ntmps94
      go_wp2
      go_ret
      exact ⟨_, [], rfl, Oa.nil _ _ _, by simp, by simp, Ext.refl _⟩
    | some p =>
      go_enter Try.func94, Try.ntmps94
      go_wp2
      go_ret
      exact ⟨_, [], rfl, Oa.lit0 _ _, by simp, by simp, (Ext.refl _).alloc _⟩
  · have hpos : 0 < xs.length := List.length_pos_iff.2 hne
    have HR : Hid (∀ ob, Row (w.alloc ob) b o xs F') := Lib.hid (fun ob => hr.keep (((Ext.refl w).alloc ob).block b (hr.lt hne)) (fun k hk => ((Ext.refl w).alloc ob).block k (hr.inh k hk)))
    have HI : Hid (∀ k ∈ F', k < w.heap.size) := Lib.hid hr.inh
    clear hr
    go_enter Try.func94, Try.ntmps94
    go_wp2_with (at_builtin; refine wpl_app (α := Part) rfl _ _ 23 rfl 58 Try.underlying23 elPart (L := w.heap.size) (v := .slice (some ⟨w.heap.size, 0, none⟩) 0 0) (xs := []) (ys := xs) rfl (Oa.lit0 _ _) rfl rfl (HR.out _) (by omega) (fun k hk e => by cases e; exact absurd (HI.out _ hk) (Nat.lt_irrefl _)) (by simp; omega) (by simp) ?_; intro v' w' hO' hgr; have HO2 := Lib.hid hO'; have HQ2 := Lib.hid (Ext.grown ((Ext.refl w).alloc _) hgr (fun k hk => by cases hk; exact Nat.le_refl _)); clear hO' hgr; obtain ⟨ao2, co2, rfl, _⟩ := HO2.out.form)
    go_ret
    exact ⟨_, F', rfl, by simpa using HO2.out, fun b hb => by simp [hb], List.sublist_cons_self _ _, HQ2.out⟩
theorem slices_Clip_Part (n c : Nat) (w : World) (a : Option Addr) (hc : n ≤ c) (hl : c ≤ 9223372036854775807) :
    Calls Try.prog 93 #[.slice a n c] w fun e w' => e = .returned (.slice a n n) ∧ w = w' := by
  go_enter Try.func93, Try.ntmps93
  go_wp2
  go_ret
  exact ⟨rfl, rfl⟩
theorem impl_clone_Part (v : Value) (xs : List Part) (w : World) (F : List Nat) (h : Sl w v xs F) (hn : xs.length ≤ 100000000) :
    Calls Try.prog 73 #[v] w fun e w' => ∃ v' F', e = .returned v' ∧ Oh w.heap.size w' v' xs F' ∧ (∀ b ∈ F', b ∈ F) ∧ F'.Sublist F ∧ Ext w w' := by
  obtain ⟨a, c, rfl, hl⟩ := Rs.form ⟨F, h⟩
  have H := Lib.hid h
  clear h
  go_enter Try.func73, Try.ntmps73
  go_wp2_with fail
  refine (slices_Clone_Part _ _ _ _ H.out hn).mono ?_
  rintro e w1 ⟨v1, F1, rfl, ho, hF, hsub, he⟩
  obtain ⟨a1, c1, rfl, _⟩ := ho.form
  have hcp := ho.cap
  have HO := Lib.hid ho.oh
  have HX := Lib.hid (And.intro hF (And.intro hsub he))
  clear ho hF hsub he
  go_wp2_with fail
  refine (slices_Clip_Part _ _ _ _ hcp.1 hcp.2).mono ?_
  rintro e w2 ⟨rfl, rfl⟩
  go_wp2
  go_ret
  exact ⟨_, F1, rfl, HO.out, HX.out⟩
theorem elChannel : El Try.prog 63 Channel := El.of (z := .agg #[.int .i64 0, .int .i64 0, .int .i64 0, .int .i64 0]) (n := 4) (b := 32) (by kernel_rfl) rfl rfl (by decide)
theorem slices_Clone_Channel (v : Value) (xs : List Channel) (w : World) (F : List Nat) (h : Sl w v xs F) (hn : xs.length ≤ 100000000) :
    Calls Try.prog 96 #[v] w fun e w' => ∃ v' F', e = .returned v' ∧ Oa 63 w.heap.size w' v' xs F' ∧ (∀ b ∈ F', b ∈ F) ∧ F'.Sublist F ∧ Ext w w' := by
  have hnil : ∀ (a : Option Addr) (n c : Nat), (binOp .eql 24 (.slice a n c) (.slice none 0 0)).run Try.prog w = .ok (.bool a.isNone) w := fun a n c => Go.Lib.run_eql_slice_nil w 24 63 a n c 0 0 Try.underlying24
  obtain ⟨a, c, rfl, hl, hc, ⟨rfl, rfl⟩ | ⟨hne, b, o, F', rfl, rfl, hr⟩⟩ := h
  · cases a with
    | none =>
      go_enter Try.func96, Try.ntmps96
      go_wp2
      go_ret
      exact ⟨_, [], rfl, Oa.nil _ _ _, by simp, by simp, Ext.refl _⟩
    | some p =>
      go_enter Try.func96, Try.ntmps96
      go_wp2
      go_ret
      exact ⟨_, [], rfl, Oa.lit0 _ _, by simp, by simp, (Ext.refl _).alloc _⟩
  · have hpos : 0 < xs.length := List.length_pos_iff.2 hne
    have HR : Hid (∀ ob, Row (w.alloc ob) b o xs F') := Lib.hid (fun ob => hr.keep (((Ext.refl w).alloc ob).block b (hr.lt hne)) (fun k hk => ((Ext.refl w).alloc ob).block k (hr.inh k hk)))
    have HI : Hid (∀ k ∈ F', k < w.heap.size) := Lib.hid hr.inh
    clear hr
    go_enter Try.func96, Try.ntmps96
    go_wp2_with (at_builtin; refine wpl_app (α := Channel) rfl _ _ 24 rfl 63 Try.underlying24 elChannel (L := w.heap.size) (v := .slice (some ⟨w.heap.size, 0, none⟩) 0 0) (xs := []) (ys := xs) rfl (Oa.lit0 _ _) rfl rfl (HR.out _) (by omega) (fun k hk e => by cases e; exact absurd (HI.out _ hk) (Nat.lt_irrefl _)) (by simp; omega) (by simp) ?_; intro v' w' hO' hgr; have HO2 := Lib.hid hO'; have HQ2 := Lib.hid (Ext.grown ((Ext.refl w).alloc _) hgr (fun k hk => by cases hk; exact Nat.le_refl _)); clear hO' hgr; obtain ⟨ao2, co2, rfl, _⟩ := HO2.out.form)
    go_ret
    exact ⟨_, F', rfl, by simpa using HO2.out, fun b hb => by simp [hb], List.sublist_cons_self _ _, HQ2.out⟩
theorem slices_Clip_Channel (n c : Nat) (w : World) (a : Option Addr) (hc : n ≤ c) (hl : c ≤ 9223372036854775807) :
    Calls Try.prog 95 #[.slice a n c] w fun e w' => e = .returned (.slice a n n) ∧ w = w' := by
  go_enter Try.func95, Try.ntmps95
  go_wp2
  go_ret
  exact ⟨rfl, rfl⟩
theorem impl_clone_Channel (v : Value) (xs : List Channel) (w : World) (F : List Nat) (h : Sl w v xs F) (hn : xs.length ≤ 100000000) :
    Calls Try.prog 74 #[v] w fun e w' => ∃ v' F', e = .returned v' ∧ Oh w.heap.size w' v' xs F' ∧ (∀ b ∈ F', b ∈ F) ∧ F'.Sublist F ∧ Ext w w' := by
  obtain ⟨a, c, rfl, hl⟩ := Rs.form ⟨F, h⟩
  have H := Lib.hid h
  clear h
  go_enter Try.func74, Try.ntmps74
  go_wp2_with fail
  refine (slices_Clone_Channel _ _ _ _ H.out hn).mono ?_
  rintro e w1 ⟨v1, F1, rfl, ho, hF, hsub, he⟩
  obtain ⟨a1, c1, rfl, _⟩ := ho.form
  have hcp := ho.cap
  have HO := Lib.hid ho.oh
  have HX := Lib.hid (And.intro hF (And.intro hsub he))
  clear ho hF hsub he
  go_wp2_with fail
  refine (slices_Clip_Channel _ _ _ _ hcp.1 hcp.2).mono ?_
  rintro e w2 ⟨rfl, rfl⟩
  go_wp2
  go_ret
  exact ⟨_, F1, rfl, HO.out, HX.out⟩
theorem elSlot : El Try.prog 65 Slot := El.of (z := .agg #[.int .i64 0, .int .i64 0]) (n := 2) (b := 16) (by kernel_rfl) rfl rfl (by decide)
theorem slices_Clone_Slot (v : Value) (xs : List Slot) (w : World) (F : List Nat) (h : Sl w v xs F) (hn : xs.length ≤ 100000000) :
    Calls Try.prog 98 #[v] w fun e w' => ∃ v' F', e = .returned v' ∧ Oa 65 w.heap.size w' v' xs F' ∧ (∀ b ∈ F', b ∈ F) ∧ F'.Sublist F ∧ Ext w w' := by
  have hnil : ∀ (a : Option Addr) (n c : Nat), (binOp .eql 25 (.slice a n c) (.slice none 0 0)).run Try.prog w = .ok (.bool a.isNone) w := fun a n c => Go.Lib.run_eql_slice_nil w 25 65 a n c 0 0 Try.underlying25
  obtain ⟨a, c, rfl, hl, hc, ⟨rfl, rfl⟩ | ⟨hne, b, o, F', rfl, rfl, hr⟩⟩ := h
  · cases a with
    | none =>
      go_enter Try.func98, Try.ntmps98
      go_wp2
      go_ret
      exact ⟨_, [], rfl, Oa.nil _ _ _, by simp, by simp, Ext.refl _⟩
    | some p =>
      go_enter Try.func98, Try.ntmps98
      go_wp2
      go_ret
      exact ⟨_, [], rfl, Oa.lit0 _ _, by simp, by simp, (Ext.refl _).alloc _⟩
  · have hpos : 0 < xs.length := List.length_pos_iff.2 hne
    have HR : Hid (∀ ob, Row (w.alloc ob) b o xs F') := Lib.hid (fun ob => hr.keep (((Ext.refl w).alloc ob).block b (hr.lt hne)) (fun k hk => ((Ext.refl w).alloc ob).block k (hr.inh k hk)))
    have HI : Hid (∀ k ∈ F', k < w.heap.size) := Lib.hid hr.inh
    clear hr
    go_enter Try.func98, Try.ntmps98
    go_wp2_with (at_builtin; refine wpl_app (α := Slot) rfl _ _ 25 rfl 65 Try.underlying25 elSlot (L := w.heap.size) (v := .slice (some ⟨w.heap.size, 0, none⟩) 0 0) (xs := []) (ys := xs) rfl (Oa.lit0 _ _) rfl rfl (HR.out _) (by omega) (fun k hk e => by cases e; exact absurd (HI.out _ hk) (Nat.lt_irrefl _)) (by simp; omega) (by simp) ?_; intro v' w' hO' hgr; have HO2 := Lib.hid hO'; have HQ2 := Lib.hid (Ext.grown ((Ext.refl w).alloc _) hgr (fun k hk => by cases hk; exact Nat.le_refl _)); clear hO' hgr; obtain ⟨ao2, co2, rfl, _⟩ := HO2.out.form)
    go_ret
    exact ⟨_, F', rfl, by simpa using HO2.out, fun b hb => by simp [hb], List.sublist_cons_self _ _, HQ2.out⟩
theorem slices_Clip_Slot (n c : Nat) (w : World) (a : Option Addr) (hc : n ≤ c) (hl : c ≤ 9223372036854775807) :
    Calls Try.prog 97 #[.slice a n c] w fun e w' => e = .returned (.slice a n n) ∧ w = w' := by
  go_enter Try.func97, Try.ntmps97
  go_wp2
  go_ret
  exact ⟨rfl, rfl⟩
theorem impl_clone_Slot (v : Value) (xs : List Slot) (w : World) (F : List Nat) (h : Sl w v xs F) (hn : xs.length ≤ 100000000) :
    Calls Try.prog 75 #[v] w fun e w' => ∃ v' F', e = .returned v' ∧ Oh w.heap.size w' v' xs F' ∧ (∀ b ∈ F', b ∈ F) ∧ F'.Sublist F ∧ Ext w w' := by
  obtain ⟨a, c, rfl, hl⟩ := Rs.form ⟨F, h⟩
  have H := Lib.hid h
  clear h
  go_enter Try.func75, Try.ntmps75
  go_wp2_with fail
  refine (slices_Clone_Slot _ _ _ _ H.out hn).mono ?_
  rintro e w1 ⟨v1, F1, rfl, ho, hF, hsub, he⟩
  obtain ⟨a1, c1, rfl, _⟩ := ho.form
  have hcp := ho.cap
  have HO := Lib.hid ho.oh
  have HX := Lib.hid (And.intro hF (And.intro hsub he))
  clear ho hF hsub he
  go_wp2_with fail
  refine (slices_Clip_Slot _ _ _ _ hcp.1 hcp.2).mono ?_
  rintro e w2 ⟨rfl, rfl⟩
  go_wp2
  go_ret
  exact ⟨_, F1, rfl, HO.out, HX.out⟩
end Sk

