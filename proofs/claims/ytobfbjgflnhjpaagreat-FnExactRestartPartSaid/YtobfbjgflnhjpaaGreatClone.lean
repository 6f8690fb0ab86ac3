/- Contracts of functions of the given program, and lemmas for them: each theorem states the condition under which it holds. -/
import Derived.Test.YtobfbjgflnhjpaaGreatChecked
import Derived.Lib.SliceRun
import Derived.Test.YtobfbjgflnhjpaaGreatApp
import Derived.Test.YtobfbjgflnhjpaaGreatChan
namespace Sk
open Go Go.Proofs Go.RowKit
set_option maxHeartbeats 400000
set_option maxRecDepth 100000
set_option linter.unusedVariables false
set_option linter.unusedSimpArgs false
/-- A list whose own block is new; its elements lie in F. -/
def Oh {α : Type} [GT α] (L : Nat) (w : World) (v : Value) (xs : List α) (F : List Nat) : Prop :=
  (v = .slice none 0 0 ∧ xs = [] ∧ F = []) ∨ ∃ g, v = .slice (some ⟨g, 0, none⟩) xs.length xs.length ∧ L ≤ g ∧ Fz w g ∧ xs.length ≤ maxLen ∧ Row w g 0 xs F ∧ g ∉ F
theorem Oa.oh {α : Type} [GT α] {e : TypeId} {L : Nat} {w : World} {a : Option Addr} {n c : Nat} {xs : List α} {F : List Nat} (h : Oa e L w (.slice a n c) xs F) : Oh L w (.slice a n n) xs F := by
  rcases h with ⟨h, rfl, rfl⟩ | ⟨g, cap, cur, h, hL, hg, hl, hc, hs, hr, hn⟩
  · cases h; exact .inl ⟨rfl, rfl, rfl⟩
  · cases h; exact .inr ⟨g, rfl, hL, ⟨_, _, Bk.ofA hg⟩, Nat.le_trans hl hc, hr, hn⟩
theorem Oh.os {α : Type} [GT α] {L : Nat} {w : World} {v : Value} {xs : List α} (h : Oh L w v xs []) : Os L w v xs := by
  rcases h with ⟨rfl, rfl, _⟩ | ⟨g, rfl, hL, hz, hl, hr, _⟩
  · exact ⟨[], ⟨none, 0, rfl, Nat.le_refl _, Nat.zero_le _, .inl ⟨rfl, rfl⟩⟩, Own.nil _ _⟩
  · by_cases hx : xs = []
    · subst hx; exact ⟨[], ⟨some ⟨g, 0, none⟩, 0, rfl, Nat.le_refl _, Nat.zero_le _, .inl ⟨rfl, rfl⟩⟩, Own.nil _ _⟩
    · exact ⟨[g], ⟨_, _, rfl, Nat.le_refl _, hl, .inr ⟨hx, g, 0, [], rfl, rfl, hr⟩⟩, by simp, fun b hb => by rw [List.mem_singleton] at hb; subst hb; exact ⟨hL, hz⟩⟩
theorem slices_Clone_Int (v : Value) (xs : List Int) (w : World) (F : List Nat) (h : Sl w v xs F) (hn : xs.length ≤ 100000000) :
    Calls Tryz.prog 160 #[v] w fun e w' => ∃ v' F', e = .returned v' ∧ Oa 3 w.heap.size w' v' xs F' ∧ (∀ b ∈ F', b ∈ F) ∧ F'.Sublist F ∧ Ext w w' := by
  have hnil : ∀ (a : Option Addr) (n c : Nat), (binOp .eql 98 (.slice a n c) (.slice none 0 0)).run Tryz.prog w = .ok (.bool a.isNone) w := fun a n c => Go.Lib.run_eql_slice_nil w 98 3 a n c 0 0 Tryz.underlying98
  obtain ⟨a, c, rfl, hl, hc, ⟨rfl, rfl⟩ | ⟨hne, b, o, F', rfl, rfl, hr⟩⟩ := h
  · cases a with
    | none =>
      go_enter Tryz.func160, Tryz.ntmps160
      go_wp2
      go_ret
      exact ⟨_, [], rfl, Oa.nil _ _ _, by simp, by simp, Ext.refl _⟩
    | some p =>
      go_enter Tryz.func160, Tryz.ntmps160
      go_wp2
      go_ret
      exact ⟨_, [], rfl, Oa.lit0 _ _, by simp, by simp, (Ext.refl _).alloc _⟩
  · have hpos : 0 < xs.length := List.length_pos_iff.2 hne
    have HR : Hid (∀ ob, Row (w.alloc ob) b o xs F') := Lib.hid (fun ob => hr.keep (((Ext.refl w).alloc ob).block b (hr.lt hne)) (fun k hk => ((Ext.refl w).alloc ob).block k (hr.inh k hk)))
    have HI : Hid (∀ k ∈ F', k < w.heap.size) := Lib.hid hr.inh
    clear hr
    go_enter Tryz.func160, Tryz.ntmps160
    go_wp2_with (at_builtin; refine wpl_app (α := Int) rfl _ _ 98 rfl 3 Tryz.underlying98 elInt (L := w.heap.size) (v := .slice (some ⟨w.heap.size, 0, none⟩) 0 0) (xs := []) (ys := xs) rfl (Oa.lit0 _ _) rfl rfl (HR.out _) (by omega) (fun k hk e => by cases e; exact absurd (HI.out _ hk) (Nat.lt_irrefl _)) (by simp; omega) (by simp) ?_; intro v' w' hO' hgr; have HO2 := Lib.hid hO'; have HQ2 := Lib.hid (Ext.grown ((Ext.refl w).alloc _) hgr (fun k hk => by cases hk; exact Nat.le_refl _)); clear hO' hgr; obtain ⟨ao2, co2, rfl, _⟩ := HO2.out.form)
    go_ret
    exact ⟨_, F', rfl, by simpa using HO2.out, fun b hb => by simp [hb], List.sublist_cons_self _ _, HQ2.out⟩
theorem impl_clone_Int (v : Value) (xs : List Int) (w : World) (F : List Nat) (h : Sl w v xs F) (hn : xs.length ≤ 100000000) :
    Calls Tryz.prog 113 #[v] w fun e w' => ∃ v' F', e = .returned v' ∧ Oh w.heap.size w' v' xs F' ∧ (∀ b ∈ F', b ∈ F) ∧ F'.Sublist F ∧ Ext w w' := by
  obtain ⟨a, c, rfl, hl⟩ := Rs.form ⟨F, h⟩
  have H := Lib.hid h
  clear h
  go_enter Tryz.func113, Tryz.ntmps113
  go_wp2_with fail
  refine (slices_Clone_Int _ _ _ _ H.out hn).mono ?_
  rintro e w1 ⟨v1, F1, rfl, ho, hF, hsub, he⟩
  obtain ⟨a1, c1, rfl, _⟩ := ho.form
  have hcp := ho.cap
  have HO := Lib.hid ho.oh
  have HX := Lib.hid (And.intro hF (And.intro hsub he))
  clear ho hF hsub he
  go_wp2_with fail
  refine (slices_Clip_int _ xs _ _ _ rfl hcp.1 hcp.2).mono ?_
  rintro e w2 ⟨rfl, rfl⟩
  go_wp2
  go_ret
  exact ⟨_, F1, rfl, HO.out, HX.out⟩
theorem elWindow : El Tryz.prog 201 Window := El.of (z := .agg #[.int .i64 0, .int .i64 0, .bool false]) (n := 3) (b := 24) (by kernel_rfl) rfl rfl (by decide)
theorem slices_Clone_Window (v : Value) (xs : List Window) (w : World) (F : List Nat) (h : Sl w v xs F) (hn : xs.length ≤ 100000000) :
    Calls Tryz.prog 184 #[v] w fun e w' => ∃ v' F', e = .returned v' ∧ Oa 201 w.heap.size w' v' xs F' ∧ (∀ b ∈ F', b ∈ F) ∧ F'.Sublist F ∧ Ext w w' := by
  have hnil : ∀ (a : Option Addr) (n c : Nat), (binOp .eql 102 (.slice a n c) (.slice none 0 0)).run Tryz.prog w = .ok (.bool a.isNone) w := fun a n c => Go.Lib.run_eql_slice_nil w 102 201 a n c 0 0 Tryz.underlying102
  obtain ⟨a, c, rfl, hl, hc, ⟨rfl, rfl⟩ | ⟨hne, b, o, F', rfl, rfl, hr⟩⟩ := h
  · cases a with
    | none =>
      go_enter Tryz.func184, Tryz.ntmps184
      go_wp2
      go_ret
      exact ⟨_, [], rfl, Oa.nil _ _ _, by simp, by simp, Ext.refl _⟩
    | some p =>
      go_enter Tryz.func184, Tryz.ntmps184
      go_wp2
      go_ret
      exact ⟨_, [], rfl, Oa.lit0 _ _, by simp, by simp, (Ext.refl _).alloc _⟩
  · have hpos : 0 < xs.length := List.length_pos_iff.2 hne
    have HR : Hid (∀ ob, Row (w.alloc ob) b o xs F') := Lib.hid (fun ob => hr.keep (((Ext.refl w).alloc ob).block b (hr.lt hne)) (fun k hk => ((Ext.refl w).alloc ob).block k (hr.inh k hk)))
    have HI : Hid (∀ k ∈ F', k < w.heap.size) := Lib.hid hr.inh
    clear hr
    go_enter Tryz.func184, Tryz.ntmps184
    go_wp2_with (at_builtin; refine wpl_app (α := Window) rfl _ _ 102 rfl 201 Tryz.underlying102 elWindow (L := w.heap.size) (v := .slice (some ⟨w.heap.size, 0, none⟩) 0 0) (xs := []) (ys := xs) rfl (Oa.lit0 _ _) rfl rfl (HR.out _) (by omega) (fun k hk e => by cases e; exact absurd (HI.out _ hk) (Nat.lt_irrefl _)) (by simp; omega) (by simp) ?_; intro v' w' hO' hgr; have HO2 := Lib.hid hO'; have HQ2 := Lib.hid (Ext.grown ((Ext.refl w).alloc _) hgr (fun k hk => by cases hk; exact Nat.le_refl _)); clear hO' hgr; obtain ⟨ao2, co2, rfl, _⟩ := HO2.out.form)
    go_ret
    exact ⟨_, F', rfl, by simpa using HO2.out, fun b hb => by simp [hb], List.sublist_cons_self _ _, HQ2.out⟩
theorem slices_Clip_Window (n c : Nat) (w : World) (a : Option Addr) (hc : n ≤ c) (hl : c ≤ 9223372036854775807) :
    Calls Tryz.prog 183 #[.slice a n c] w fun e w' => e = .returned (.slice a n n) ∧ w = w' := by
  go_enter Tryz.func183, Tryz.ntmps183
  go_wp2
  go_ret
  exact ⟨rfl, rfl⟩
theorem impl_clone_Window (v : Value) (xs : List Window) (w : World) (F : List Nat) (h : Sl w v xs F) (hn : xs.length ≤ 100000000) :
    Calls Tryz.prog 150 #[v] w fun e w' => ∃ v' F', e = .returned v' ∧ Oh w.heap.size w' v' xs F' ∧ (∀ b ∈ F', b ∈ F) ∧ F'.Sublist F ∧ Ext w w' := by
  obtain ⟨a, c, rfl, hl⟩ := Rs.form ⟨F, h⟩
  have H := Lib.hid h
  clear h
  go_enter Tryz.func150, Tryz.ntmps150
  go_wp2_with fail
  refine (slices_Clone_Window _ _ _ _ H.out hn).mono ?_
  rintro e w1 ⟨v1, F1, rfl, ho, hF, hsub, he⟩
  obtain ⟨a1, c1, rfl, _⟩ := ho.form
  have hcp := ho.cap
  have HO := Lib.hid ho.oh
  have HX := Lib.hid (And.intro hF (And.intro hsub he))
  clear ho hF hsub he
  go_wp2_with fail
  refine (slices_Clip_Window _ _ _ _ hcp.1 hcp.2).mono ?_
  rintro e w2 ⟨rfl, rfl⟩
  go_wp2
  go_ret
  exact ⟨_, F1, rfl, HO.out, HX.out⟩
theorem elPart : El Tryz.prog 104 Part := El.of (z := .agg #[.slice none 0 0, .int .i64 0]) (n := 2) (b := 32) (by kernel_rfl) rfl rfl (by decide)
theorem slices_Clone_Part (v : Value) (xs : List Part) (w : World) (F : List Nat) (h : Sl w v xs F) (hn : xs.length ≤ 100000000) :
    Calls Tryz.prog 178 #[v] w fun e w' => ∃ v' F', e = .returned v' ∧ Oa 104 w.heap.size w' v' xs F' ∧ (∀ b ∈ F', b ∈ F) ∧ F'.Sublist F ∧ Ext w w' := by
  have hnil : ∀ (a : Option Addr) (n c : Nat), (binOp .eql 43 (.slice a n c) (.slice none 0 0)).run Tryz.prog w = .ok (.bool a.isNone) w := fun a n c => Go.Lib.run_eql_slice_nil w 43 104 a n c 0 0 Tryz.underlying43
  obtain ⟨a, c, rfl, hl, hc, ⟨rfl, rfl⟩ | ⟨hne, b, o, F', rfl, rfl, hr⟩⟩ := h
  · cases a with
    | none =>
      go_enter Tryz.func178, Tryz.ntmps178
      go_wp2
      go_ret
      exact ⟨_, [], rfl, Oa.nil _ _ _, by simp, by simp, Ext.refl _⟩
    | some p =>
      go_enter Tryz.func178, Tryz.ntmps178
      go_wp2
      go_ret
      exact ⟨_, [], rfl, Oa.lit0 _ _, by simp, by simp, (Ext.refl _).alloc _⟩
  · have hpos : 0 < xs.length := List.length_pos_iff.2 hne
    have HR : Hid (∀ ob, Row (w.alloc ob) b o xs F') := Lib.hid (fun ob => hr.keep (((Ext.refl w).alloc ob).block b (hr.lt hne)) (fun k hk => ((Ext.refl w).alloc ob).block k (hr.inh k hk)))
    have HI : Hid (∀ k ∈ F', k < w.heap.size) := Lib.hid hr.inh
    clear hr
    go_enter Tryz.func178, Tryz.ntmps178
    go_wp2_with (at_builtin; refine wpl_app (α := Part) rfl _ _ 43 rfl 104 Tryz.underlying43 elPart (L := w.heap.size) (v := .slice (some ⟨w.heap.size, 0, none⟩) 0 0) (xs := []) (ys := xs) rfl (Oa.lit0 _ _) rfl rfl (HR.out _) (by omega) (fun k hk e => by cases e; exact absurd (HI.out _ hk) (Nat.lt_irrefl _)) (by simp; omega) (by simp) ?_; intro v' w' hO' hgr; have HO2 := Lib.hid hO'; have HQ2 := Lib.hid (Ext.grown ((Ext.refl w).alloc _) hgr (fun k hk => by cases hk; exact Nat.le_refl _)); clear hO' hgr; obtain ⟨ao2, co2, rfl, _⟩ := HO2.out.form)
    go_ret
    exact ⟨_, F', rfl, by simpa using HO2.out, fun b hb => by simp [hb], List.sublist_cons_self _ _, HQ2.out⟩
theorem slices_Clip_Part (n c : Nat) (w : World) (a : Option Addr) (hc : n ≤ c) (hl : c ≤ 9223372036854775807) :
    Calls Tryz.prog 177 #[.slice a n c] w fun e w' => e = .returned (.slice a n n) ∧ w = w' := by
  go_enter Tryz.func177, Tryz.ntmps177
  go_wp2
  go_ret
  exact ⟨rfl, rfl⟩
theorem impl_clone_Part (v : Value) (xs : List Part) (w : World) (F : List Nat) (h : Sl w v xs F) (hn : xs.length ≤ 100000000) :
    Calls Tryz.prog 147 #[v] w fun e w' => ∃ v' F', e = .returned v' ∧ Oh w.heap.size w' v' xs F' ∧ (∀ b ∈ F', b ∈ F) ∧ F'.Sublist F ∧ Ext w w' := by
  obtain ⟨a, c, rfl, hl⟩ := Rs.form ⟨F, h⟩
  have H := Lib.hid h
  clear h
  go_enter Tryz.func147, Tryz.ntmps147
  go_wp2_with fail
  refine (slices_Clone_Part _ _ _ _ H.out hn).mono ?_
  rintro e w1 ⟨v1, F1, rfl, ho, hF, hsub, he⟩
  obtain ⟨a1, c1, rfl, _⟩ := ho.form
  have hcp := ho.cap
  have HO := Lib.hid ho.oh
  have HX := Lib.hid (And.intro hF (And.intro hsub he))
  clear ho hF hsub he
  go_wp2_with fail
  refine (slices_Clip_Part _ _ _ _ hcp.1 hcp.2).mono ?_
  rintro e w2 ⟨rfl, rfl⟩
  go_wp2
  go_ret
  exact ⟨_, F1, rfl, HO.out, HX.out⟩
theorem elChannel : El Tryz.prog 128 Channel := El.of (z := .agg #[.int .i64 0, .int .i64 0, .int .i64 0, .int .i64 0]) (n := 4) (b := 32) (by kernel_rfl) rfl rfl (by decide)
theorem slices_Clone_Channel (v : Value) (xs : List Channel) (w : World) (F : List Nat) (h : Sl w v xs F) (hn : xs.length ≤ 100000000) :
    Calls Tryz.prog 180 #[v] w fun e w' => ∃ v' F', e = .returned v' ∧ Oa 128 w.heap.size w' v' xs F' ∧ (∀ b ∈ F', b ∈ F) ∧ F'.Sublist F ∧ Ext w w' := by
  have hnil : ∀ (a : Option Addr) (n c : Nat), (binOp .eql 44 (.slice a n c) (.slice none 0 0)).run Tryz.prog w = .ok (.bool a.isNone) w := fun a n c => Go.Lib.run_eql_slice_nil w 44 128 a n c 0 0 Tryz.underlying44
  obtain ⟨a, c, rfl, hl, hc, ⟨rfl, rfl⟩ | ⟨hne, b, o, F', rfl, rfl, hr⟩⟩ := h
  · cases a with
    | none =>
      go_enter Tryz.func180, Tryz.ntmps180
      go_wp2
      go_ret
      exact ⟨_, [], rfl, Oa.nil _ _ _, by simp, by simp, Ext.refl _⟩
    | some p =>
      go_enter Tryz.func180, Tryz.ntmps180
      go_wp2
      go_ret
      exact ⟨_, [], rfl, Oa.lit0 _ _, by simp, by simp, (Ext.refl _).alloc _⟩
  · have hpos : 0 < xs.length := List.length_pos_iff.2 hne
    have HR : Hid (∀ ob, Row (w.alloc ob) b o xs F') := Lib.hid (fun ob => hr.keep (((Ext.refl w).alloc ob).block b (hr.lt hne)) (fun k hk => ((Ext.refl w).alloc ob).block k (hr.inh k hk)))
    have HI : Hid (∀ k ∈ F', k < w.heap.size) := Lib.hid hr.inh
    clear hr
    go_enter Tryz.func180, Tryz.ntmps180
    go_wp2_with (at_builtin; refine wpl_app (α := Channel) rfl _ _ 44 rfl 128 Tryz.underlying44 elChannel (L := w.heap.size) (v := .slice (some ⟨w.heap.size, 0, none⟩) 0 0) (xs := []) (ys := xs) rfl (Oa.lit0 _ _) rfl rfl (HR.out _) (by omega) (fun k hk e => by cases e; exact absurd (HI.out _ hk) (Nat.lt_irrefl _)) (by simp; omega) (by simp) ?_; intro v' w' hO' hgr; have HO2 := Lib.hid hO'; have HQ2 := Lib.hid (Ext.grown ((Ext.refl w).alloc _) hgr (fun k hk => by cases hk; exact Nat.le_refl _)); clear hO' hgr; obtain ⟨ao2, co2, rfl, _⟩ := HO2.out.form)
    go_ret
    exact ⟨_, F', rfl, by simpa using HO2.out, fun b hb => by simp [hb], List.sublist_cons_self _ _, HQ2.out⟩
theorem slices_Clip_Channel (n c : Nat) (w : World) (a : Option Addr) (hc : n ≤ c) (hl : c ≤ 9223372036854775807) :
    Calls Tryz.prog 179 #[.slice a n c] w fun e w' => e = .returned (.slice a n n) ∧ w = w' := by
  go_enter Tryz.func179, Tryz.ntmps179
  go_wp2
  go_ret
  exact ⟨rfl, rfl⟩
theorem impl_clone_Channel (v : Value) (xs : List Channel) (w : World) (F : List Nat) (h : Sl w v xs F) (hn : xs.length ≤ 100000000) :
    Calls Tryz.prog 148 #[v] w fun e w' => ∃ v' F', e = .returned v' ∧ Oh w.heap.size w' v' xs F' ∧ (∀ b ∈ F', b ∈ F) ∧ F'.Sublist F ∧ Ext w w' := by
  obtain ⟨a, c, rfl, hl⟩ := Rs.form ⟨F, h⟩
  have H := Lib.hid h
  clear h
  go_enter Tryz.func148, Tryz.ntmps148
  go_wp2_with fail
  refine (slices_Clone_Channel _ _ _ _ H.out hn).mono ?_
  rintro e w1 ⟨v1, F1, rfl, ho, hF, hsub, he⟩
  obtain ⟨a1, c1, rfl, _⟩ := ho.form
  have hcp := ho.cap
  have HO := Lib.hid ho.oh
  have HX := Lib.hid (And.intro hF (And.intro hsub he))
  clear ho hF hsub he
  go_wp2_with fail
  refine (slices_Clip_Channel _ _ _ _ hcp.1 hcp.2).mono ?_
  rintro e w2 ⟨rfl, rfl⟩
  go_wp2
  go_ret
  exact ⟨_, F1, rfl, HO.out, HX.out⟩
theorem elSlot : El Tryz.prog 156 Slot := El.of (z := .agg #[.int .i64 0, .int .i64 0]) (n := 2) (b := 16) (by kernel_rfl) rfl rfl (by decide)
theorem slices_Clone_Slot (v : Value) (xs : List Slot) (w : World) (F : List Nat) (h : Sl w v xs F) (hn : xs.length ≤ 100000000) :
    Calls Tryz.prog 182 #[v] w fun e w' => ∃ v' F', e = .returned v' ∧ Oa 156 w.heap.size w' v' xs F' ∧ (∀ b ∈ F', b ∈ F) ∧ F'.Sublist F ∧ Ext w w' := by
  have hnil : ∀ (a : Option Addr) (n c : Nat), (binOp .eql 45 (.slice a n c) (.slice none 0 0)).run Tryz.prog w = .ok (.bool a.isNone) w := fun a n c => Go.Lib.run_eql_slice_nil w 45 156 a n c 0 0 Tryz.underlying45
  obtain ⟨a, c, rfl, hl, hc, ⟨rfl, rfl⟩ | ⟨hne, b, o, F', rfl, rfl, hr⟩⟩ := h
  · cases a with
    | none =>
      go_enter Tryz.func182, Tryz.ntmps182
      go_wp2
      go_ret
      exact ⟨_, [], rfl, Oa.nil _ _ _, by simp, by simp, Ext.refl _⟩
    | some p =>
      go_enter Tryz.func182, Tryz.ntmps182
      go_wp2
      go_ret
      exact ⟨_, [], rfl, Oa.lit0 _ _, by simp, by simp, (Ext.refl _).alloc _⟩
  · have hpos : 0 < xs.length := List.length_pos_iff.2 hne
    have HR : Hid (∀ ob, Row (w.alloc ob) b o xs F') := Lib.hid (fun ob => hr.keep (((Ext.refl w).alloc ob).block b (hr.lt hne)) (fun k hk => ((Ext.refl w).alloc ob).block k (hr.inh k hk)))
    have HI : Hid (∀ k ∈ F', k < w.heap.size) := Lib.hid hr.inh
    clear hr
    go_enter Tryz.func182, Tryz.ntmps182
    go_wp2_with (at_builtin; refine wpl_app (α := Slot) rfl _ _ 45 rfl 156 Tryz.underlying45 elSlot (L := w.heap.size) (v := .slice (some ⟨w.heap.size, 0, none⟩) 0 0) (xs := []) (ys := xs) rfl (Oa.lit0 _ _) rfl rfl (HR.out _) (by omega) (fun k hk e => by cases e; exact absurd (HI.out _ hk) (Nat.lt_irrefl _)) (by simp; omega) (by simp) ?_; intro v' w' hO' hgr; have HO2 := Lib.hid hO'; have HQ2 := Lib.hid (Ext.grown ((Ext.refl w).alloc _) hgr (fun k hk => by cases hk; exact Nat.le_refl _)); clear hO' hgr; obtain ⟨ao2, co2, rfl, _⟩ := HO2.out.form)
    go_ret
    exact ⟨_, F', rfl, by simpa using HO2.out, fun b hb => by simp [hb], List.sublist_cons_self _ _, HQ2.out⟩
theorem slices_Clip_Slot (n c : Nat) (w : World) (a : Option Addr) (hc : n ≤ c) (hl : c ≤ 9223372036854775807) :
    Calls Tryz.prog 181 #[.slice a n c] w fun e w' => e = .returned (.slice a n n) ∧ w = w' := by
  go_enter Tryz.func181, Tryz.ntmps181
  go_wp2
  go_ret
  exact ⟨rfl, rfl⟩
theorem impl_clone_Slot (v : Value) (xs : List Slot) (w : World) (F : List Nat) (h : Sl w v xs F) (hn : xs.length ≤ 100000000) :
    Calls Tryz.prog 149 #[v] w fun e w' => ∃ v' F', e = .returned v' ∧ Oh w.heap.size w' v' xs F' ∧ (∀ b ∈ F', b ∈ F) ∧ F'.Sublist F ∧ Ext w w' := by
  obtain ⟨a, c, rfl, hl⟩ := Rs.form ⟨F, h⟩
  have H := Lib.hid h
  clear h
  go_enter Tryz.func149, Tryz.ntmps149
  go_wp2_with fail
  refine (slices_Clone_Slot _ _ _ _ H.out hn).mono ?_
  rintro e w1 ⟨v1, F1, rfl, ho, hF, hsub, he⟩
  obtain ⟨a1, c1, rfl, _⟩ := ho.form
  have hcp := ho.cap
  have HO := Lib.hid ho.oh
  have HX := Lib.hid (And.intro hF (And.intro hsub he))
  clear ho hF hsub he
  go_wp2_with fail
  refine (slices_Clip_Slot _ _ _ _ hcp.1 hcp.2).mono ?_
  rintro e w2 ⟨rfl, rfl⟩
  go_wp2
  go_ret
  exact ⟨_, F1, rfl, HO.out, HX.out⟩
theorem elOrder : El Tryz.prog 160 Order := El.of (z := .agg #[.int .i64 0, .int .i64 0, .int .i64 0]) (n := 3) (b := 24) (by kernel_rfl) rfl rfl (by decide)
theorem slices_Clone_Order (v : Value) (xs : List Order) (w : World) (F : List Nat) (h : Sl w v xs F) (hn : xs.length ≤ 100000000) :
    Calls Tryz.prog 158 #[v] w fun e w' => ∃ v' F', e = .returned v' ∧ Oa 160 w.heap.size w' v' xs F' ∧ (∀ b ∈ F', b ∈ F) ∧ F'.Sublist F ∧ Ext w w' := by
  have hnil : ∀ (a : Option Addr) (n c : Nat), (binOp .eql 109 (.slice a n c) (.slice none 0 0)).run Tryz.prog w = .ok (.bool a.isNone) w := fun a n c => Go.Lib.run_eql_slice_nil w 109 160 a n c 0 0 Tryz.underlying109
  obtain ⟨a, c, rfl, hl, hc, ⟨rfl, rfl⟩ | ⟨hne, b, o, F', rfl, rfl, hr⟩⟩ := h
  · cases a with
    | none =>
      go_enter Tryz.func158, Tryz.ntmps158
      go_wp2
      go_ret
      exact ⟨_, [], rfl, Oa.nil _ _ _, by simp, by simp, Ext.refl _⟩
    | some p =>
      go_enter Tryz.func158, Tryz.ntmps158
      go_wp2
      go_ret
      exact ⟨_, [], rfl, Oa.lit0 _ _, by simp, by simp, (Ext.refl _).alloc _⟩
  · have hpos : 0 < xs.length := List.length_pos_iff.2 hne
    have HR : Hid (∀ ob, Row (w.alloc ob) b o xs F') := Lib.hid (fun ob => hr.keep (((Ext.refl w).alloc ob).block b (hr.lt hne)) (fun k hk => ((Ext.refl w).alloc ob).block k (hr.inh k hk)))
    have HI : Hid (∀ k ∈ F', k < w.heap.size) := Lib.hid hr.inh
    clear hr
    go_enter Tryz.func158, Tryz.ntmps158
    go_wp2_with (at_builtin; refine wpl_app (α := Order) rfl _ _ 109 rfl 160 Tryz.underlying109 elOrder (L := w.heap.size) (v := .slice (some ⟨w.heap.size, 0, none⟩) 0 0) (xs := []) (ys := xs) rfl (Oa.lit0 _ _) rfl rfl (HR.out _) (by omega) (fun k hk e => by cases e; exact absurd (HI.out _ hk) (Nat.lt_irrefl _)) (by simp; omega) (by simp) ?_; intro v' w' hO' hgr; have HO2 := Lib.hid hO'; have HQ2 := Lib.hid (Ext.grown ((Ext.refl w).alloc _) hgr (fun k hk => by cases hk; exact Nat.le_refl _)); clear hO' hgr; obtain ⟨ao2, co2, rfl, _⟩ := HO2.out.form)
    go_ret
    exact ⟨_, F', rfl, by simpa using HO2.out, fun b hb => by simp [hb], List.sublist_cons_self _ _, HQ2.out⟩
theorem slices_Clip_Order (n c : Nat) (w : World) (a : Option Addr) (hc : n ≤ c) (hl : c ≤ 9223372036854775807) :
    Calls Tryz.prog 157 #[.slice a n c] w fun e w' => e = .returned (.slice a n n) ∧ w = w' := by
  go_enter Tryz.func157, Tryz.ntmps157
  go_wp2
  go_ret
  exact ⟨rfl, rfl⟩
theorem impl_clone_Order (v : Value) (xs : List Order) (w : World) (F : List Nat) (h : Sl w v xs F) (hn : xs.length ≤ 100000000) :
    Calls Tryz.prog 111 #[v] w fun e w' => ∃ v' F', e = .returned v' ∧ Oh w.heap.size w' v' xs F' ∧ (∀ b ∈ F', b ∈ F) ∧ F'.Sublist F ∧ Ext w w' := by
  obtain ⟨a, c, rfl, hl⟩ := Rs.form ⟨F, h⟩
  have H := Lib.hid h
  clear h
  go_enter Tryz.func111, Tryz.ntmps111
  go_wp2_with fail
  refine (slices_Clone_Order _ _ _ _ H.out hn).mono ?_
  rintro e w1 ⟨v1, F1, rfl, ho, hF, hsub, he⟩
  obtain ⟨a1, c1, rfl, _⟩ := ho.form
  have hcp := ho.cap
  have HO := Lib.hid ho.oh
  have HX := Lib.hid (And.intro hF (And.intro hsub he))
  clear ho hF hsub he
  go_wp2_with fail
  refine (slices_Clip_Order _ _ _ _ hcp.1 hcp.2).mono ?_
  rintro e w2 ⟨rfl, rfl⟩
  go_wp2
  go_ret
  exact ⟨_, F1, rfl, HO.out, HX.out⟩
theorem elOrderS : El Tryz.prog 109 (List Order) := El.of (z := .slice none 0 0) (n := 1) (b := 24) (by kernel_rfl) rfl rfl (by decide)
theorem slices_Clone_OrderS (v : Value) (xs : List (List Order)) (w : World) (F : List Nat) (h : Sl w v xs F) (hn : xs.length ≤ 100000000) :
    Calls Tryz.prog 152 #[v] w fun e w' => ∃ v' F', e = .returned v' ∧ Oa 109 w.heap.size w' v' xs F' ∧ (∀ b ∈ F', b ∈ F) ∧ F'.Sublist F ∧ Ext w w' := by
  have hnil : ∀ (a : Option Addr) (n c : Nat), (binOp .eql 48 (.slice a n c) (.slice none 0 0)).run Tryz.prog w = .ok (.bool a.isNone) w := fun a n c => Go.Lib.run_eql_slice_nil w 48 109 a n c 0 0 Tryz.underlying48
  obtain ⟨a, c, rfl, hl, hc, ⟨rfl, rfl⟩ | ⟨hne, b, o, F', rfl, rfl, hr⟩⟩ := h
  · cases a with
    | none =>
      go_enter Tryz.func152, Tryz.ntmps152
      go_wp2
      go_ret
      exact ⟨_, [], rfl, Oa.nil _ _ _, by simp, by simp, Ext.refl _⟩
    | some p =>
      go_enter Tryz.func152, Tryz.ntmps152
      go_wp2
      go_ret
      exact ⟨_, [], rfl, Oa.lit0 _ _, by simp, by simp, (Ext.refl _).alloc _⟩
  · have hpos : 0 < xs.length := List.length_pos_iff.2 hne
    have HR : Hid (∀ ob, Row (w.alloc ob) b o xs F') := Lib.hid (fun ob => hr.keep (((Ext.refl w).alloc ob).block b (hr.lt hne)) (fun k hk => ((Ext.refl w).alloc ob).block k (hr.inh k hk)))
    have HI : Hid (∀ k ∈ F', k < w.heap.size) := Lib.hid hr.inh
    clear hr
    go_enter Tryz.func152, Tryz.ntmps152
    go_wp2_with (at_builtin; refine wpl_app (α := (List Order)) rfl _ _ 48 rfl 109 Tryz.underlying48 elOrderS (L := w.heap.size) (v := .slice (some ⟨w.heap.size, 0, none⟩) 0 0) (xs := []) (ys := xs) rfl (Oa.lit0 _ _) rfl rfl (HR.out _) (by omega) (fun k hk e => by cases e; exact absurd (HI.out _ hk) (Nat.lt_irrefl _)) (by simp; omega) (by simp) ?_; intro v' w' hO' hgr; have HO2 := Lib.hid hO'; have HQ2 := Lib.hid (Ext.grown ((Ext.refl w).alloc _) hgr (fun k hk => by cases hk; exact Nat.le_refl _)); clear hO' hgr; obtain ⟨ao2, co2, rfl, _⟩ := HO2.out.form)
    go_ret
    exact ⟨_, F', rfl, by simpa using HO2.out, fun b hb => by simp [hb], List.sublist_cons_self _ _, HQ2.out⟩
theorem slices_Clip_OrderS (n c : Nat) (w : World) (a : Option Addr) (hc : n ≤ c) (hl : c ≤ 9223372036854775807) :
    Calls Tryz.prog 151 #[.slice a n c] w fun e w' => e = .returned (.slice a n n) ∧ w = w' := by
  go_enter Tryz.func151, Tryz.ntmps151
  go_wp2
  go_ret
  exact ⟨rfl, rfl⟩
theorem impl_clone_OrderS (v : Value) (xs : List (List Order)) (w : World) (F : List Nat) (h : Sl w v xs F) (hn : xs.length ≤ 100000000) :
    Calls Tryz.prog 108 #[v] w fun e w' => ∃ v' F', e = .returned v' ∧ Oh w.heap.size w' v' xs F' ∧ (∀ b ∈ F', b ∈ F) ∧ F'.Sublist F ∧ Ext w w' := by
  obtain ⟨a, c, rfl, hl⟩ := Rs.form ⟨F, h⟩
  have H := Lib.hid h
  clear h
  go_enter Tryz.func108, Tryz.ntmps108
  go_wp2_with fail
  refine (slices_Clone_OrderS _ _ _ _ H.out hn).mono ?_
  rintro e w1 ⟨v1, F1, rfl, ho, hF, hsub, he⟩
  obtain ⟨a1, c1, rfl, _⟩ := ho.form
  have hcp := ho.cap
  have HO := Lib.hid ho.oh
  have HX := Lib.hid (And.intro hF (And.intro hsub he))
  clear ho hF hsub he
  go_wp2_with fail
  refine (slices_Clip_OrderS _ _ _ _ hcp.1 hcp.2).mono ?_
  rintro e w2 ⟨rfl, rfl⟩
  go_wp2
  go_ret
  exact ⟨_, F1, rfl, HO.out, HX.out⟩
theorem elCore : El Tryz.prog 100 Core := El.of (z := .agg #[.slice none 0 0, .int .i64 0, .bool false]) (n := 3) (b := 40) (by kernel_rfl) rfl rfl (by decide)
theorem slices_Clone_Core (v : Value) (xs : List Core) (w : World) (F : List Nat) (h : Sl w v xs F) (hn : xs.length ≤ 100000000) :
    Calls Tryz.prog 154 #[v] w fun e w' => ∃ v' F', e = .returned v' ∧ Oa 100 w.heap.size w' v' xs F' ∧ (∀ b ∈ F', b ∈ F) ∧ F'.Sublist F ∧ Ext w w' := by
  have hnil : ∀ (a : Option Addr) (n c : Nat), (binOp .eql 49 (.slice a n c) (.slice none 0 0)).run Tryz.prog w = .ok (.bool a.isNone) w := fun a n c => Go.Lib.run_eql_slice_nil w 49 100 a n c 0 0 Tryz.underlying49
  obtain ⟨a, c, rfl, hl, hc, ⟨rfl, rfl⟩ | ⟨hne, b, o, F', rfl, rfl, hr⟩⟩ := h
  · cases a with
    | none =>
      go_enter Tryz.func154, Tryz.ntmps154
      go_wp2
      go_ret
      exact ⟨_, [], rfl, Oa.nil _ _ _, by simp, by simp, Ext.refl _⟩
    | some p =>
      go_enter Tryz.func154, Tryz.ntmps154
      go_wp2
      go_ret
      exact ⟨_, [], rfl, Oa.lit0 _ _, by simp, by simp, (Ext.refl _).alloc _⟩
  · have hpos : 0 < xs.length := List.length_pos_iff.2 hne
    have HR : Hid (∀ ob, Row (w.alloc ob) b o xs F') := Lib.hid (fun ob => hr.keep (((Ext.refl w).alloc ob).block b (hr.lt hne)) (fun k hk => ((Ext.refl w).alloc ob).block k (hr.inh k hk)))
    have HI : Hid (∀ k ∈ F', k < w.heap.size) := Lib.hid hr.inh
    clear hr
    go_enter Tryz.func154, Tryz.ntmps154
    go_wp2_with (at_builtin; refine wpl_app (α := Core) rfl _ _ 49 rfl 100 Tryz.underlying49 elCore (L := w.heap.size) (v := .slice (some ⟨w.heap.size, 0, none⟩) 0 0) (xs := []) (ys := xs) rfl (Oa.lit0 _ _) rfl rfl (HR.out _) (by omega) (fun k hk e => by cases e; exact absurd (HI.out _ hk) (Nat.lt_irrefl _)) (by simp; omega) (by simp) ?_; intro v' w' hO' hgr; have HO2 := Lib.hid hO'; have HQ2 := Lib.hid (Ext.grown ((Ext.refl w).alloc _) hgr (fun k hk => by cases hk; exact Nat.le_refl _)); clear hO' hgr; obtain ⟨ao2, co2, rfl, _⟩ := HO2.out.form)
    go_ret
    exact ⟨_, F', rfl, by simpa using HO2.out, fun b hb => by simp [hb], List.sublist_cons_self _ _, HQ2.out⟩
theorem slices_Clip_Core (n c : Nat) (w : World) (a : Option Addr) (hc : n ≤ c) (hl : c ≤ 9223372036854775807) :
    Calls Tryz.prog 153 #[.slice a n c] w fun e w' => e = .returned (.slice a n n) ∧ w = w' := by
  go_enter Tryz.func153, Tryz.ntmps153
  go_wp2
  go_ret
  exact ⟨rfl, rfl⟩
theorem impl_clone_Core (v : Value) (xs : List Core) (w : World) (F : List Nat) (h : Sl w v xs F) (hn : xs.length ≤ 100000000) :
    Calls Tryz.prog 109 #[v] w fun e w' => ∃ v' F', e = .returned v' ∧ Oh w.heap.size w' v' xs F' ∧ (∀ b ∈ F', b ∈ F) ∧ F'.Sublist F ∧ Ext w w' := by
  obtain ⟨a, c, rfl, hl⟩ := Rs.form ⟨F, h⟩
  have H := Lib.hid h
  clear h
  go_enter Tryz.func109, Tryz.ntmps109
  go_wp2_with fail
  refine (slices_Clone_Core _ _ _ _ H.out hn).mono ?_
  rintro e w1 ⟨v1, F1, rfl, ho, hF, hsub, he⟩
  obtain ⟨a1, c1, rfl, _⟩ := ho.form
  have hcp := ho.cap
  have HO := Lib.hid ho.oh
  have HX := Lib.hid (And.intro hF (And.intro hsub he))
  clear ho hF hsub he
  go_wp2_with fail
  refine (slices_Clip_Core _ _ _ _ hcp.1 hcp.2).mono ?_
  rintro e w2 ⟨rfl, rfl⟩
  go_wp2
  go_ret
  exact ⟨_, F1, rfl, HO.out, HX.out⟩
theorem elHold : El Tryz.prog 130 Hold := El.of (z := .agg #[.slice none 0 0]) (n := 1) (b := 24) (by kernel_rfl) rfl rfl (by decide)
theorem slices_Clone_Hold (v : Value) (xs : List Hold) (w : World) (F : List Nat) (h : Sl w v xs F) (hn : xs.length ≤ 100000000) :
    Calls Tryz.prog 156 #[v] w fun e w' => ∃ v' F', e = .returned v' ∧ Oa 130 w.heap.size w' v' xs F' ∧ (∀ b ∈ F', b ∈ F) ∧ F'.Sublist F ∧ Ext w w' := by
  have hnil : ∀ (a : Option Addr) (n c : Nat), (binOp .eql 50 (.slice a n c) (.slice none 0 0)).run Tryz.prog w = .ok (.bool a.isNone) w := fun a n c => Go.Lib.run_eql_slice_nil w 50 130 a n c 0 0 Tryz.underlying50
  obtain ⟨a, c, rfl, hl, hc, ⟨rfl, rfl⟩ | ⟨hne, b, o, F', rfl, rfl, hr⟩⟩ := h
  · cases a with
    | none =>
      go_enter Tryz.func156, Tryz.ntmps156
      go_wp2
      go_ret
      exact ⟨_, [], rfl, Oa.nil _ _ _, by simp, by simp, Ext.refl _⟩
    | some p =>
      go_enter Tryz.func156, Tryz.ntmps156
      go_wp2
      go_ret
      exact ⟨_, [], rfl, Oa.lit0 _ _, by simp, by simp, (Ext.refl _).alloc _⟩
  · have hpos : 0 < xs.length := List.length_pos_iff.2 hne
    have HR : Hid (∀ ob, Row (w.alloc ob) b o xs F') := Lib.hid (fun ob => hr.keep (((Ext.refl w).alloc ob).block b (hr.lt hne)) (fun k hk => ((Ext.refl w).alloc ob).block k (hr.inh k hk)))
    have HI : Hid (∀ k ∈ F', k < w.heap.size) := Lib.hid hr.inh
    clear hr
    go_enter Tryz.func156, Tryz.ntmps156
    go_wp2_with (at_builtin; refine wpl_app (α := Hold) rfl _ _ 50 rfl 130 Tryz.underlying50 elHold (L := w.heap.size) (v := .slice (some ⟨w.heap.size, 0, none⟩) 0 0) (xs := []) (ys := xs) rfl (Oa.lit0 _ _) rfl rfl (HR.out _) (by omega) (fun k hk e => by cases e; exact absurd (HI.out _ hk) (Nat.lt_irrefl _)) (by simp; omega) (by simp) ?_; intro v' w' hO' hgr; have HO2 := Lib.hid hO'; have HQ2 := Lib.hid (Ext.grown ((Ext.refl w).alloc _) hgr (fun k hk => by cases hk; exact Nat.le_refl _)); clear hO' hgr; obtain ⟨ao2, co2, rfl, _⟩ := HO2.out.form)
    go_ret
    exact ⟨_, F', rfl, by simpa using HO2.out, fun b hb => by simp [hb], List.sublist_cons_self _ _, HQ2.out⟩
theorem slices_Clip_Hold (n c : Nat) (w : World) (a : Option Addr) (hc : n ≤ c) (hl : c ≤ 9223372036854775807) :
    Calls Tryz.prog 155 #[.slice a n c] w fun e w' => e = .returned (.slice a n n) ∧ w = w' := by
  go_enter Tryz.func155, Tryz.ntmps155
  go_wp2
  go_ret
  exact ⟨rfl, rfl⟩
theorem impl_clone_Hold (v : Value) (xs : List Hold) (w : World) (F : List Nat) (h : Sl w v xs F) (hn : xs.length ≤ 100000000) :
    Calls Tryz.prog 110 #[v] w fun e w' => ∃ v' F', e = .returned v' ∧ Oh w.heap.size w' v' xs F' ∧ (∀ b ∈ F', b ∈ F) ∧ F'.Sublist F ∧ Ext w w' := by
  obtain ⟨a, c, rfl, hl⟩ := Rs.form ⟨F, h⟩
  have H := Lib.hid h
  clear h
  go_enter Tryz.func110, Tryz.ntmps110
  go_wp2_with fail
  refine (slices_Clone_Hold _ _ _ _ H.out hn).mono ?_
  rintro e w1 ⟨v1, F1, rfl, ho, hF, hsub, he⟩
  obtain ⟨a1, c1, rfl, _⟩ := ho.form
  have hcp := ho.cap
  have HO := Lib.hid ho.oh
  have HX := Lib.hid (And.intro hF (And.intro hsub he))
  clear ho hF hsub he
  go_wp2_with fail
  refine (slices_Clip_Hold _ _ _ _ hcp.1 hcp.2).mono ?_
  rintro e w2 ⟨rfl, rfl⟩
  go_wp2
  go_ret
  exact ⟨_, F1, rfl, HO.out, HX.out⟩
end Sk

