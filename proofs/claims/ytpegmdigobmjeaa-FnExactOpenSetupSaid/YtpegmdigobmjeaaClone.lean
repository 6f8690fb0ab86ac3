/- Contracts of functions of the given program, and lemmas for them: each theorem states the condition under which it holds. -/
import Derived.Test.YtpegmdigobmjeaaChecked
import Derived.Lib.SliceRun
import Derived.Test.YtpegmdigobmjeaaApp
import Derived.Test.YtpegmdigobmjeaaNums
namespace Sk
open Go Go.Proofs Go.RowKit
set_option maxHeartbeats 400000
set_option maxRecDepth 100000
set_option linter.unusedVariables false
set_option linter.unusedSimpArgs false
/-- A list whose own block is new; its elements lie in F. -/
def Oh {α : Type} [GT α] (L : Nat) (w : World) (v : Value) (xs : List α) (F : List Nat) : Prop :=
  (v = .slice none 0 0 ∧ xs = [] ∧ F = []) ∨ ∃ g, v = .slice (some ⟨g, 0, none⟩) xs.length xs.length ∧ L ≤ g ∧ Fz w g ∧ xs.length ≤ maxLen ∧ Row w g 0 xs F ∧ g ∉ F
theorem Oa.oh {α : Type} [GT α] {e : TypeId} {L : Nat} {w : World} {a : Option Addr} {n c : Nat} {xs : List α} {F : List Nat} (h : Oa e L w (.slice a n c) xs F) : Oh L w (.slice a n n) xs F := by
  rcases h with ⟨h, rfl, rfl⟩ | ⟨g, cap, cur, h, hL, hg, hl, hc, hs, hr, hn⟩
  · cases h; exact .inl ⟨rfl, rfl, rfl⟩
  · cases h; exact .inr ⟨g, rfl, hL, ⟨_, _, Bk.ofA hg⟩, Nat.le_trans hl hc, hr, hn⟩
theorem Oh.os {α : Type} [GT α] {L : Nat} {w : World} {v : Value} {xs : List α} (h : Oh L w v xs []) : Os L w v xs := by
  rcases h with ⟨rfl, rfl, _⟩ | ⟨g, rfl, hL, hz, hl, hr, _⟩
  · exact ⟨[], ⟨none, 0, rfl, Nat.le_refl _, Nat.zero_le _, .inl ⟨rfl, rfl⟩⟩, Own.nil _ _⟩
  · by_cases hx : xs = []
    · subst hx; exact ⟨[], ⟨some ⟨g, 0, none⟩, 0, rfl, Nat.le_refl _, Nat.zero_le _, .inl ⟨rfl, rfl⟩⟩, Own.nil _ _⟩
    · exact ⟨[g], ⟨_, _, rfl, Nat.le_refl _, hl, .inr ⟨hx, g, 0, [], rfl, rfl, hr⟩⟩, by simp, fun b hb => by rw [List.mem_singleton] at hb; subst hb; exact ⟨hL, hz⟩⟩
theorem slices_Clone_Int (v : Value) (xs : List Int) (w : World) (F : List Nat) (h : Sl w v xs F) (hn : xs.length ≤ 100000000) :
    Calls Try.prog 124 #[v] w fun e w' => ∃ v' F', e = .returned v' ∧ Oa 3 w.heap.size w' v' xs F' ∧ (∀ b ∈ F', b ∈ F) ∧ F'.Sublist F ∧ Ext w w' := by
  have hnil : ∀ (a : Option Addr) (n c : Nat), (binOp .eql 22 (.slice a n c) (.slice none 0 0)).run Try.prog w = .ok (.bool a.isNone) w := fun a n c => Go.Lib.run_eql_slice_nil w 22 3 a n c 0 0 Try.underlying22
  obtain ⟨a, c, rfl, hl, hc, ⟨rfl, rfl⟩ | ⟨hne, b, o, F', rfl, rfl, hr⟩⟩ := h
  · cases a with
    | none =>
      go_enter Try.func124, Try.ntmps124
      go_wp2
      go_ret
      exact ⟨_, [], rfl, Oa.nil _ _ _, by simp, by simp, Ext.refl _⟩
    | some p =>
      go_enter Try.func124, Try.ntmps124
      go_wp2
      go_ret
      exact ⟨_, [], rfl, Oa.lit0 _ _, by simp, by simp, (Ext.refl _).alloc _⟩
  · have hpos : 0 < xs.length := List.length_pos_iff.2 hne
    have HR : Hid (∀ ob, Row (w.alloc ob) b o xs F') := Lib.hid (fun ob => hr.keep (((Ext.refl w).alloc ob).block b (hr.lt hne)) (fun k hk => ((Ext.refl w).alloc ob).block k (hr.inh k hk)))
    have HI : Hid (∀ k ∈ F', k < w.heap.size) := Lib.hid hr.inh
    clear hr
    go_enter Try.func124, Try.ntmps124
    go_wp2_with (at_builtin; refine wpl_app (α := Int) rfl _ _ 22 rfl 3 Try.underlying22 elInt (L := w.heap.size) (v := .slice (some ⟨w.heap.size, 0, none⟩) 0 0) (xs := []) (ys := xs) rfl (Oa.lit0 _ _) rfl rfl (HR.out _) (by omega) (fun k hk e => by cases e; exact absurd (HI.out _ hk) (Nat.lt_irrefl _)) (by simp; omega) (by simp) ?_; intro v' w' hO' hgr; have HO2 := Lib.hid hO'; have HQ2 := Lib.hid (Ext.grown ((Ext.refl w).alloc _) hgr (fun k hk => by cases hk; exact Nat.le_refl _)); clear hO' hgr; obtain ⟨ao2, co2, rfl, _⟩ := HO2.out.form)
    go_ret
    exact ⟨_, F', rfl, by simpa using HO2.out, fun b hb => by simp [hb], List.sublist_cons_self _ _, HQ2.out⟩
theorem impl_clone_Int (v : Value) (xs : List Int) (w : World) (F : List Nat) (h : Sl w v xs F) (hn : xs.length ≤ 100000000) :
    Calls Try.prog 99 #[v] w fun e w' => ∃ v' F', e = .returned v' ∧ Oh w.heap.size w' v' xs F' ∧ (∀ b ∈ F', b ∈ F) ∧ F'.Sublist F ∧ Ext w w' := by
  obtain ⟨a, c, rfl, hl⟩ := Rs.form ⟨F, h⟩
  have H := Lib.hid h
  clear h
  go_enter Try.func99, Try.ntmps99
  go_wp2_with fail
  refine (slices_Clone_Int _ _ _ _ H.out hn).mono ?_
  rintro e w1 ⟨v1, F1, rfl, ho, hF, hsub, he⟩
  obtain ⟨a1, c1, rfl, _⟩ := ho.form
  have hcp := ho.cap
  have HO := Lib.hid ho.oh
  have HX := Lib.hid (And.intro hF (And.intro hsub he))
  clear ho hF hsub he
  go_wp2_with fail
  refine (slices_Clip_int _ xs _ _ _ rfl hcp.1 hcp.2).mono ?_
  rintro e w2 ⟨rfl, rfl⟩
  go_wp2
  go_ret
  exact ⟨_, F1, rfl, HO.out, HX.out⟩
theorem elWindow : El Try.prog 63 Window := El.of (z := .agg #[.int .i64 0, .int .i64 0, .bool false]) (n := 3) (b := 24) (by kernel_rfl) rfl rfl (by decide)
theorem slices_Clone_Window (v : Value) (xs : List Window) (w : World) (F : List Nat) (h : Sl w v xs F) (hn : xs.length ≤ 100000000) :
    Calls Try.prog 118 #[v] w fun e w' => ∃ v' F', e = .returned v' ∧ Oa 63 w.heap.size w' v' xs F' ∧ (∀ b ∈ F', b ∈ F) ∧ F'.Sublist F ∧ Ext w w' := by
  have hnil : ∀ (a : Option Addr) (n c : Nat), (binOp .eql 59 (.slice a n c) (.slice none 0 0)).run Try.prog w = .ok (.bool a.isNone) w := fun a n c => Go.Lib.run_eql_slice_nil w 59 63 a n c 0 0 Try.underlying59
  obtain ⟨a, c, rfl, hl, hc, ⟨rfl, rfl⟩ | ⟨hne, b, o, F', rfl, rfl, hr⟩⟩ := h
  · cases a with
    | none =>
      go_enter Try.func118, Try.ntmps118
      go_wp2
      go_ret
      exact ⟨_, [], rfl, Oa.nil _ _ _, by simp, by simp, Ext.refl _⟩
    | some p =>
      go_enter Try.func118, Try.ntmps118
      go_wp2
      go_ret
      exact ⟨_, [], rfl, Oa.lit0 _ _, by simp, by simp, (Ext.refl _).alloc _⟩
  · have hpos : 0 < xs.length := List.length_pos_iff.2 hne
    have HR : Hid (∀ ob, Row (w.alloc ob) b o xs F') := Lib.hid (fun ob => hr.keep (((Ext.refl w).alloc ob).block b (hr.lt hne)) (fun k hk => ((Ext.refl w).alloc ob).block k (hr.inh k hk)))
    have HI : Hid (∀ k ∈ F', k < w.heap.size) := Lib.hid hr.inh
    clear hr
    go_enter Try.func118, Try.ntmps118
    go_wp2_with (at_builtin; refine wpl_app (α := Window) rfl _ _ 59 rfl 63 Try.underlying59 elWindow (L := w.heap.size) (v := .slice (some ⟨w.heap.size, 0, none⟩) 0 0) (xs := []) (ys := xs) rfl (Oa.lit0 _ _) rfl rfl (HR.out _) (by omega) (fun k hk e => by cases e; exact absurd (HI.out _ hk) (Nat.lt_irrefl _)) (by simp; omega) (by simp) ?_; intro v' w' hO' hgr; have HO2 := Lib.hid hO'; have HQ2 := Lib.hid (Ext.grown ((Ext.refl w).alloc _) hgr (fun k hk => by cases hk; exact Nat.le_refl _)); clear hO' hgr; obtain ⟨ao2, co2, rfl, _⟩ := HO2.out.form)
    go_ret
    exact ⟨_, F', rfl, by simpa using HO2.out, fun b hb => by simp [hb], List.sublist_cons_self _ _, HQ2.out⟩
theorem slices_Clip_Window (n c : Nat) (w : World) (a : Option Addr) (hc : n ≤ c) (hl : c ≤ 9223372036854775807) :
    Calls Try.prog 117 #[.slice a n c] w fun e w' => e = .returned (.slice a n n) ∧ w = w' := by
  go_enter Try.func117, Try.ntmps117
  go_wp2
  go_ret
  exact ⟨rfl, rfl⟩
theorem impl_clone_Window (v : Value) (xs : List Window) (w : World) (F : List Nat) (h : Sl w v xs F) (hn : xs.length ≤ 100000000) :
    Calls Try.prog 86 #[v] w fun e w' => ∃ v' F', e = .returned v' ∧ Oh w.heap.size w' v' xs F' ∧ (∀ b ∈ F', b ∈ F) ∧ F'.Sublist F ∧ Ext w w' := by
  obtain ⟨a, c, rfl, hl⟩ := Rs.form ⟨F, h⟩
  have H := Lib.hid h
  clear h
  go_enter Try.func86, Try.ntmps86
  go_wp2_with fail
  refine (slices_Clone_Window _ _ _ _ H.out hn).mono ?_
  rintro e w1 ⟨v1, F1, rfl, ho, hF, hsub, he⟩
  obtain ⟨a1, c1, rfl, _⟩ := ho.form
  have hcp := ho.cap
  have HO := Lib.hid ho.oh
  have HX := Lib.hid (And.intro hF (And.intro hsub he))
  clear ho hF hsub he
  go_wp2_with fail
  refine (slices_Clip_Window _ _ _ _ hcp.1 hcp.2).mono ?_
  rintro e w2 ⟨rfl, rfl⟩
  go_wp2
  go_ret
  exact ⟨_, F1, rfl, HO.out, HX.out⟩
theorem elPart : El Try.prog 61 Part := El.of (z := .agg #[.slice none 0 0, .int .i64 0]) (n := 2) (b := 32) (by kernel_rfl) rfl rfl (by decide)
theorem slices_Clone_Part (v : Value) (xs : List Part) (w : World) (F : List Nat) (h : Sl w v xs F) (hn : xs.length ≤ 100000000) :
    Calls Try.prog 114 #[v] w fun e w' => ∃ v' F', e = .returned v' ∧ Oa 61 w.heap.size w' v' xs F' ∧ (∀ b ∈ F', b ∈ F) ∧ F'.Sublist F ∧ Ext w w' := by
  have hnil : ∀ (a : Option Addr) (n c : Nat), (binOp .eql 23 (.slice a n c) (.slice none 0 0)).run Try.prog w = .ok (.bool a.isNone) w := fun a n c => Go.Lib.run_eql_slice_nil w 23 61 a n c 0 0 Try.underlying23
  obtain ⟨a, c, rfl, hl, hc, ⟨rfl, rfl⟩ | ⟨hne, b, o, F', rfl, rfl, hr⟩⟩ := h
  · cases a with
    | none =>
      go_enter Try.func114, Try.ntmps114
      go_wp2
      go_ret
      exact ⟨_, [], rfl, Oa.nil _ _ _, by simp, by simp, Ext.refl _⟩
    | some p =>
      go_enter Try.func114, Try.ntmps114
      go_wp2
      go_ret
      exact ⟨_, [], rfl, Oa.lit0 _ _, by simp, by simp, (Ext.refl _).alloc _⟩
  · have hpos : 0 < xs.length := List.length_pos_iff.2 hne
    have HR : Hid (∀ ob, Row (w.alloc ob) b o xs F') := Lib.hid (fun ob => hr.keep (((Ext.refl w).alloc ob).block b (hr.lt hne)) (fun k hk => ((Ext.refl w).alloc ob).block k (hr.inh k hk)))
    have HI : Hid (∀ k ∈ F', k < w.heap.size) := Lib.hid hr.inh
    clear hr
    go_enter Try.func114, Try.ntmps114
    go_wp2_with (at_builtin; refine wpl_app (α := Part) rfl _ _ 23 rfl 61 Try.underlying23 elPart (L := w.heap.size) (v := .slice (some ⟨w.heap.size, 0, none⟩) 0 0) (xs := []) (ys := xs) rfl (Oa.lit0 _ _) rfl rfl (HR.out _) (by omega) (fun k hk e => by cases e; exact absurd (HI.out _ hk) (Nat.lt_irrefl _)) (by simp; omega) (by simp) ?_; intro v' w' hO' hgr; have HO2 := Lib.hid hO'; have HQ2 := Lib.hid (Ext.grown ((Ext.refl w).alloc _) hgr (fun k hk => by cases hk; exact Nat.le_refl _)); clear hO' hgr; obtain ⟨ao2, co2, rfl, _⟩ := HO2.out.form)
    go_ret
    exact ⟨_, F', rfl, by simpa using HO2.out, fun b hb => by simp [hb], List.sublist_cons_self _ _, HQ2.out⟩
theorem slices_Clip_Part (n c : Nat) (w : World) (a : Option Addr) (hc : n ≤ c) (hl : c ≤ 9223372036854775807) :
    Calls Try.prog 113 #[.slice a n c] w fun e w' => e = .returned (.slice a n n) ∧ w = w' := by
  go_enter Try.func113, Try.ntmps113
  go_wp2
  go_ret
  exact ⟨rfl, rfl⟩
theorem impl_clone_Part (v : Value) (xs : List Part) (w : World) (F : List Nat) (h : Sl w v xs F) (hn : xs.length ≤ 100000000) :
    Calls Try.prog 84 #[v] w fun e w' => ∃ v' F', e = .returned v' ∧ Oh w.heap.size w' v' xs F' ∧ (∀ b ∈ F', b ∈ F) ∧ F'.Sublist F ∧ Ext w w' := by
  obtain ⟨a, c, rfl, hl⟩ := Rs.form ⟨F, h⟩
  have H := Lib.hid h
  clear h
  go_enter Try.func84, Try.ntmps84
  go_wp2_with fail
  refine (slices_Clone_Part _ _ _ _ H.out hn).mono ?_
  rintro e w1 ⟨v1, F1, rfl, ho, hF, hsub, he⟩
  obtain ⟨a1, c1, rfl, _⟩ := ho.form
  have hcp := ho.cap
  have HO := Lib.hid ho.oh
  have HX := Lib.hid (And.intro hF (And.intro hsub he))
  clear ho hF hsub he
  go_wp2_with fail
  refine (slices_Clip_Part _ _ _ _ hcp.1 hcp.2).mono ?_
  rintro e w2 ⟨rfl, rfl⟩
  go_wp2
  go_ret
  exact ⟨_, F1, rfl, HO.out, HX.out⟩
theorem elChannel : El Try.prog 66 Channel := El.of (z := .agg #[.int .i64 0, .int .i64 0, .int .i64 0, .int .i64 0]) (n := 4) (b := 32) (by kernel_rfl) rfl rfl (by decide)
theorem slices_Clone_Channel (v : Value) (xs : List Channel) (w : World) (F : List Nat) (h : Sl w v xs F) (hn : xs.length ≤ 100000000) :
    Calls Try.prog 102 #[v] w fun e w' => ∃ v' F', e = .returned v' ∧ Oa 66 w.heap.size w' v' xs F' ∧ (∀ b ∈ F', b ∈ F) ∧ F'.Sublist F ∧ Ext w w' := by
  have hnil : ∀ (a : Option Addr) (n c : Nat), (binOp .eql 24 (.slice a n c) (.slice none 0 0)).run Try.prog w = .ok (.bool a.isNone) w := fun a n c => Go.Lib.run_eql_slice_nil w 24 66 a n c 0 0 Try.underlying24
  obtain ⟨a, c, rfl, hl, hc, ⟨rfl, rfl⟩ | ⟨hne, b, o, F', rfl, rfl, hr⟩⟩ := h
  · cases a with
    | none =>
      go_enter Try.func102, Try.ntmps102
      go_wp2
      go_ret
      exact ⟨_, [], rfl, Oa.nil _ _ _, by simp, by simp, Ext.refl _⟩
    | some p =>
      go_enter Try.func102, Try.ntmps102
      go_wp2
      go_ret
      exact ⟨_, [], rfl, Oa.lit0 _ _, by simp, by simp, (Ext.refl _).alloc _⟩
  · have hpos : 0 < xs.length := List.length_pos_iff.2 hne
    have HR : Hid (∀ ob, Row (w.alloc ob) b o xs F') := Lib.hid (fun ob => hr.keep (((Ext.refl w).alloc ob).block b (hr.lt hne)) (fun k hk => ((Ext.refl w).alloc ob).block k (hr.inh k hk)))
    have HI : Hid (∀ k ∈ F', k < w.heap.size) := Lib.hid hr.inh
    clear hr
    go_enter Try.func102, Try.ntmps102
    go_wp2_with (at_builtin; refine wpl_app (α := Channel) rfl _ _ 24 rfl 66 Try.underlying24 elChannel (L := w.heap.size) (v := .slice (some ⟨w.heap.size, 0, none⟩) 0 0) (xs := []) (ys := xs) rfl (Oa.lit0 _ _) rfl rfl (HR.out _) (by omega) (fun k hk e => by cases e; exact absurd (HI.out _ hk) (Nat.lt_irrefl _)) (by simp; omega) (by simp) ?_; intro v' w' hO' hgr; have HO2 := Lib.hid hO'; have HQ2 := Lib.hid (Ext.grown ((Ext.refl w).alloc _) hgr (fun k hk => by cases hk; exact Nat.le_refl _)); clear hO' hgr; obtain ⟨ao2, co2, rfl, _⟩ := HO2.out.form)
    go_ret
    exact ⟨_, F', rfl, by simpa using HO2.out, fun b hb => by simp [hb], List.sublist_cons_self _ _, HQ2.out⟩
theorem slices_Clip_Channel (n c : Nat) (w : World) (a : Option Addr) (hc : n ≤ c) (hl : c ≤ 9223372036854775807) :
    Calls Try.prog 101 #[.slice a n c] w fun e w' => e = .returned (.slice a n n) ∧ w = w' := by
  go_enter Try.func101, Try.ntmps101
  go_wp2
  go_ret
  exact ⟨rfl, rfl⟩
theorem impl_clone_Channel (v : Value) (xs : List Channel) (w : World) (F : List Nat) (h : Sl w v xs F) (hn : xs.length ≤ 100000000) :
    Calls Try.prog 73 #[v] w fun e w' => ∃ v' F', e = .returned v' ∧ Oh w.heap.size w' v' xs F' ∧ (∀ b ∈ F', b ∈ F) ∧ F'.Sublist F ∧ Ext w w' := by
  obtain ⟨a, c, rfl, hl⟩ := Rs.form ⟨F, h⟩
  have H := Lib.hid h
  clear h
  go_enter Try.func73, Try.ntmps73
  go_wp2_with fail
  refine (slices_Clone_Channel _ _ _ _ H.out hn).mono ?_
  rintro e w1 ⟨v1, F1, rfl, ho, hF, hsub, he⟩
  obtain ⟨a1, c1, rfl, _⟩ := ho.form
  have hcp := ho.cap
  have HO := Lib.hid ho.oh
  have HX := Lib.hid (And.intro hF (And.intro hsub he))
  clear ho hF hsub he
  go_wp2_with fail
  refine (slices_Clip_Channel _ _ _ _ hcp.1 hcp.2).mono ?_
  rintro e w2 ⟨rfl, rfl⟩
  go_wp2
  go_ret
  exact ⟨_, F1, rfl, HO.out, HX.out⟩
theorem elSlot : El Try.prog 68 Slot := El.of (z := .agg #[.int .i64 0, .int .i64 0]) (n := 2) (b := 16) (by kernel_rfl) rfl rfl (by decide)
theorem slices_Clone_Slot (v : Value) (xs : List Slot) (w : World) (F : List Nat) (h : Sl w v xs F) (hn : xs.length ≤ 100000000) :
    Calls Try.prog 116 #[v] w fun e w' => ∃ v' F', e = .returned v' ∧ Oa 68 w.heap.size w' v' xs F' ∧ (∀ b ∈ F', b ∈ F) ∧ F'.Sublist F ∧ Ext w w' := by
  have hnil : ∀ (a : Option Addr) (n c : Nat), (binOp .eql 25 (.slice a n c) (.slice none 0 0)).run Try.prog w = .ok (.bool a.isNone) w := fun a n c => Go.Lib.run_eql_slice_nil w 25 68 a n c 0 0 Try.underlying25
  obtain ⟨a, c, rfl, hl, hc, ⟨rfl, rfl⟩ | ⟨hne, b, o, F', rfl, rfl, hr⟩⟩ := h
  · cases a with
    | none =>
      go_enter Try.func116, Try.ntmps116
      go_wp2
      go_ret
      exact ⟨_, [], rfl, Oa.nil _ _ _, by simp, by simp, Ext.refl _⟩
    | some p =>
      go_enter Try.func116, Try.ntmps116
      go_wp2
      go_ret
      exact ⟨_, [], rfl, Oa.lit0 _ _, by simp, by simp, (Ext.refl _).alloc _⟩
  · have hpos : 0 < xs.length := List.length_pos_iff.2 hne
    have HR : Hid (∀ ob, Row (w.alloc ob) b o xs F') := Lib.hid (fun ob => hr.keep (((Ext.refl w).alloc ob).block b (hr.lt hne)) (fun k hk => ((Ext.refl w).alloc ob).block k (hr.inh k hk)))
    have HI : Hid (∀ k ∈ F', k < w.heap.size) := Lib.hid hr.inh
    clear hr
    go_enter Try.func116, Try.ntmps116
    go_wp2_with (at_builtin; refine wpl_app (α := Slot) rfl _ _ 25 rfl 68 Try.underlying25 elSlot (L := w.heap.size) (v := .slice (some ⟨w.heap.size, 0, none⟩) 0 0) (xs := []) (ys := xs) rfl (Oa.lit0 _ _) rfl rfl (HR.out _) (by omega) (fun k hk e => by cases e; exact absurd (HI.out _ hk) (Nat.lt_irrefl _)) (by simp; omega) (by simp) ?_; intro v' w' hO' hgr; have HO2 := Lib.hid hO'; have HQ2 := Lib.hid (Ext.grown ((Ext.refl w).alloc _) hgr (fun k hk => by cases hk; exact Nat.le_refl _)); clear hO' hgr; obtain ⟨ao2, co2, rfl, _⟩ := HO2.out.form)
    go_ret
    exact ⟨_, F', rfl, by simpa using HO2.out, fun b hb => by simp [hb], List.sublist_cons_self _ _, HQ2.out⟩
theorem slices_Clip_Slot (n c : Nat) (w : World) (a : Option Addr) (hc : n ≤ c) (hl : c ≤ 9223372036854775807) :
    Calls Try.prog 115 #[.slice a n c] w fun e w' => e = .returned (.slice a n n) ∧ w = w' := by
  go_enter Try.func115, Try.ntmps115
  go_wp2
  go_ret
  exact ⟨rfl, rfl⟩
theorem impl_clone_Slot (v : Value) (xs : List Slot) (w : World) (F : List Nat) (h : Sl w v xs F) (hn : xs.length ≤ 100000000) :
    Calls Try.prog 85 #[v] w fun e w' => ∃ v' F', e = .returned v' ∧ Oh w.heap.size w' v' xs F' ∧ (∀ b ∈ F', b ∈ F) ∧ F'.Sublist F ∧ Ext w w' := by
  obtain ⟨a, c, rfl, hl⟩ := Rs.form ⟨F, h⟩
  have H := Lib.hid h
  clear h
  go_enter Try.func85, Try.ntmps85
  go_wp2_with fail
  refine (slices_Clone_Slot _ _ _ _ H.out hn).mono ?_
  rintro e w1 ⟨v1, F1, rfl, ho, hF, hsub, he⟩
  obtain ⟨a1, c1, rfl, _⟩ := ho.form
  have hcp := ho.cap
  have HO := Lib.hid ho.oh
  have HX := Lib.hid (And.intro hF (And.intro hsub he))
  clear ho hF hsub he
  go_wp2_with fail
  refine (slices_Clip_Slot _ _ _ _ hcp.1 hcp.2).mono ?_
  rintro e w2 ⟨rfl, rfl⟩
  go_wp2
  go_ret
  exact ⟨_, F1, rfl, HO.out, HX.out⟩
end Sk

