/- Contracts of functions of the given program, and lemmas for them: each theorem states the condition under which it holds. -/
import Derived.Test.YtmkibejcdldjeaaChecked
import Derived.Lib.SliceRun
import Derived.Test.YtmkibejcdldjeaaApp
import Derived.Test.YtmkibejcdldjeaaNums
namespace Sk
open Go Go.Proofs Go.RowKit
set_option maxHeartbeats 400000
set_option maxRecDepth 100000
set_option linter.unusedVariables false
set_option linter.unusedSimpArgs false
/-- A list whose own block is new; its elements lie in F. -/
def Oh {α : Type} [GT α] (L : Nat) (w : World) (v : Value) (xs : List α) (F : List Nat) : Prop :=
  (v = .slice none 0 0 ∧ xs = [] ∧ F = []) ∨ ∃ g, v = .slice (some ⟨g, 0, none⟩) xs.length xs.length ∧ L ≤ g ∧ Fz w g ∧ xs.length ≤ maxLen ∧ Row w g 0 xs F ∧ g ∉ F
theorem Oa.oh {α : Type} [GT α] {e : TypeId} {L : Nat} {w : World} {a : Option Addr} {n c : Nat} {xs : List α} {F : List Nat} (h : Oa e L w (.slice a n c) xs F) : Oh L w (.slice a n n) xs F := by
  rcases h with ⟨h, rfl, rfl⟩ | ⟨g, cap, cur, h, hL, hg, hl, hc, hs, hr, hn⟩
  · cases h; exact .inl ⟨rfl, rfl, rfl⟩
  · cases h; exact .inr ⟨g, rfl, hL, ⟨_, _, Bk.ofA hg⟩, Nat.le_trans hl hc, hr, hn⟩
theorem Oh.os {α : Type} [GT α] {L : Nat} {w : World} {v : Value} {xs : List α} (h : Oh L w v xs []) : Os L w v xs := by
  rcases h with ⟨rfl, rfl, _⟩ | ⟨g, rfl, hL, hz, hl, hr, _⟩
  · exact ⟨[], ⟨none, 0, rfl, Nat.le_refl _, Nat.zero_le _, .inl ⟨rfl, rfl⟩⟩, Own.nil _ _⟩
  · by_cases hx : xs = []
    · subst hx; exact ⟨[], ⟨some ⟨g, 0, none⟩, 0, rfl, Nat.le_refl _, Nat.zero_le _, .inl ⟨rfl, rfl⟩⟩, Own.nil _ _⟩
    · exact ⟨[g], ⟨_, _, rfl, Nat.le_refl _, hl, .inr ⟨hx, g, 0, [], rfl, rfl, hr⟩⟩, by simp, fun b hb => by rw [List.mem_singleton] at hb; subst hb; exact ⟨hL, hz⟩⟩
theorem elWindow : El Try.prog 55 Window := El.of (z := .agg #[.int .i64 0, .int .i64 0, .bool false]) (n := 3) (b := 24) (by kernel_rfl) rfl rfl (by decide)
theorem slices_Clone_Window (v : Value) (xs : List Window) (w : World) (F : List Nat) (h : Sl w v xs F) (hn : xs.length ≤ 100000000) :
    Calls Try.prog 90 #[v] w fun e w' => ∃ v' F', e = .returned v' ∧ Oa 55 w.heap.size w' v' xs F' ∧ (∀ b ∈ F', b ∈ F) ∧ F'.Sublist F ∧ Ext w w' := by
  have hnil : ∀ (a : Option Addr) (n c : Nat), (binOp .eql 51 (.slice a n c) (.slice none 0 0)).run Try.prog w = .ok (.bool a.isNone) w := fun a n c => Go.Lib.run_eql_slice_nil w 51 55 a n c 0 0 Try.underlying51
  obtain ⟨a, c, rfl, hl, hc, ⟨rfl, rfl⟩ | ⟨hne, b, o, F', rfl, rfl, hr⟩⟩ := h
  · cases a with
    | none =>
      go_enter Try.func90, Try.ntmps90
      go_wp2
      go_ret
      exact ⟨_, [], rfl, Oa.nil _ _ _, by simp, by simp, Ext.refl _⟩
    | some p =>
      go_enter Try.func90, Try.ntmps90
      go_wp2
      go_ret
      exact ⟨_, [], rfl, Oa.lit0 _ _, by simp, by simp, (Ext.refl _).alloc _⟩
  · have hpos : 0 < xs.length := List.length_pos_iff.2 hne
    have HR : Hid (∀ ob, Row (w.alloc ob) b o xs F') := Lib.hid (fun ob => hr.keep (((Ext.refl w).alloc ob).block b (hr.lt hne)) (fun k hk => ((Ext.refl w).alloc ob).block k (hr.inh k hk)))
    have HI : Hid (∀ k ∈ F', k < w.heap.size) := Lib.hid hr.inh
    clear hr
    go_enter Try.func90, Try.ntmps90
    go_wp2_with (at_builtin; refine wpl_app (α := Window) rfl _ _ 51 rfl 55 Try.underlying51 elWindow (L := w.heap.size) (v := .slice (some ⟨w.heap.size, 0, none⟩) 0 0) (xs := []) (ys := xs) rfl (Oa.lit0 _ _) rfl rfl (HR.out _) (by omega) (fun k hk e => by cases e; exact absurd (HI.out _ hk) (Nat.lt_irrefl _)) (by simp; omega) (by simp) ?_; intro v' w' hO' hgr; have HO2 := Lib.hid hO'; have HQ2 := Lib.hid (Ext.grown ((Ext.refl w).alloc _) hgr (fun k hk => by cases hk; exact Nat.le_refl _)); clear hO' hgr; obtain ⟨ao2, co2, rfl, _⟩ := HO2.out.form)
    go_ret
    exact ⟨_, F', rfl, by simpa using HO2.out, fun b hb => by simp [hb], List.sublist_cons_self _ _, HQ2.out⟩
theorem slices_Clip_Window (n c : Nat) (w : World) (a : Option Addr) (hc : n ≤ c) (hl : c ≤ 9223372036854775807) :
    Calls Try.prog 89 #[.slice a n c] w fun e w' => e = .returned (.slice a n n) ∧ w = w' := by
  go_enter Try.func89, Try.ntmps89
  go_wp2
  go_ret
  exact ⟨rfl, rfl⟩
theorem impl_clone_Window (v : Value) (xs : List Window) (w : World) (F : List Nat) (h : Sl w v xs F) (hn : xs.length ≤ 100000000) :
    Calls Try.prog 56 #[v] w fun e w' => ∃ v' F', e = .returned v' ∧ Oh w.heap.size w' v' xs F' ∧ (∀ b ∈ F', b ∈ F) ∧ F'.Sublist F ∧ Ext w w' := by
  obtain ⟨a, c, rfl, hl⟩ := Rs.form ⟨F, h⟩
  have H := Lib.hid h
  clear h
  go_enter Try.func56, Try.ntmps56
  go_wp2_with fail
  refine (slices_Clone_Window _ _ _ _ H.out hn).mono ?_
  rintro e w1 ⟨v1, F1, rfl, ho, hF, hsub, he⟩
  obtain ⟨a1, c1, rfl, _⟩ := ho.form
  have hcp := ho.cap
  have HO := Lib.hid ho.oh
  have HX := Lib.hid (And.intro hF (And.intro hsub he))
  clear ho hF hsub he
  go_wp2_with fail
  refine (slices_Clip_Window _ _ _ _ hcp.1 hcp.2).mono ?_
  rintro e w2 ⟨rfl, rfl⟩
  go_wp2
  go_ret
  exact ⟨_, F1, rfl, HO.out, HX.out⟩
theorem elPart : El Try.prog 53 Part := El.of (z := .agg #[.slice none 0 0, .int .i64 0]) (n := 2) (b := 32) (by kernel_rfl) rfl rfl (by decide)
theorem slices_Clone_Part (v : Value) (xs : List Part) (w : World) (F : List Nat) (h : Sl w v xs F) (hn : xs.length ≤ 100000000) :
    Calls Try.prog 86 #[v] w fun e w' => ∃ v' F', e = .returned v' ∧ Oa 53 w.heap.size w' v' xs F' ∧ (∀ b ∈ F', b ∈ F) ∧ F'.Sublist F ∧ Ext w w' := by
  have hnil : ∀ (a : Option Addr) (n c : Nat), (binOp .eql 23 (.slice a n c) (.slice none 0 0)).run Try.prog w = .ok (.bool a.isNone) w := fun a n c => Go.Lib.run_eql_slice_nil w 23 53 a n c 0 0 Try.underlying23
  obtain ⟨a, c, rfl, hl, hc, ⟨rfl, rfl⟩ | ⟨hne, b, o, F', rfl, rfl, hr⟩⟩ := h
  · cases a with
    | none =>
      go_enter Try.func86, Try.ntmps86
      go_wp2
      go_ret
      exact ⟨_, [], rfl, Oa.nil _ _ _, by simp, by simp, Ext.refl _⟩
    | some p =>
      go_enter Try.func86, Try.ntmps86
      go_wp2
      go_ret
      exact ⟨_, [], rfl, Oa.lit0 _ _, by simp, by simp, (Ext.refl _).alloc _⟩
  · have hpos : 0 < xs.length := List.length_pos_iff.2 hne
    have HR : Hid (∀ ob, Row (w.alloc ob) b o xs F') := Lib.hid (fun ob => hr.keep (((Ext.refl w).alloc ob).block b (hr.lt hne)) (fun k hk => ((Ext.refl w).alloc ob).block k (hr.inh k hk)))
    have HI : Hid (∀ k ∈ F', k < w.heap.size) := Lib.hid hr.inh
    clear hr
    go_enter Try.func86, Try.ntmps86
    go_wp2_with (at_builtin; refine wpl_app (α := Part) rfl _ _ 23 rfl 53 Try.underlying23 elPart (L := w.heap.size) (v := .slice (some ⟨w.heap.size, 0, none⟩) 0 0) (xs := []) (ys := xs) rfl (Oa.lit0 _ _) rfl rfl (HR.out _) (by omega) (fun k hk e => by cases e; exact absurd (HI.out _ hk) (Nat.lt_irrefl _)) (by simp; omega) (by simp) ?_; intro v' w' hO' hgr; have HO2 := Lib.hid hO'; have HQ2 := Lib.hid (Ext.grown ((Ext.refl w).alloc _) hgr (fun k hk => by cases hk; exact Nat.le_refl _)); clear hO' hgr; obtain ⟨ao2, co2, rfl, _⟩ := HO2.out.form)
    go_ret
    exact ⟨_, F', rfl, by simpa using HO2.out, fun b hb => by simp [hb], List.sublist_cons_self _ _, HQ2.out⟩
theorem slices_Clip_Part (n c : Nat) (w : World) (a : Option Addr) (hc : n ≤ c) (hl : c ≤ 9223372036854775807) :
    Calls Try.prog 85 #[.slice a n c] w fun e w' => e = .returned (.slice a n n) ∧ w = w' := by
  go_enter Try.func85, Try.ntmps85
  go_wp2
  go_ret
  exact ⟨rfl, rfl⟩
theorem impl_clone_Part (v : Value) (xs : List Part) (w : World) (F : List Nat) (h : Sl w v xs F) (hn : xs.length ≤ 100000000) :
    Calls Try.prog 54 #[v] w fun e w' => ∃ v' F', e = .returned v' ∧ Oh w.heap.size w' v' xs F' ∧ (∀ b ∈ F', b ∈ F) ∧ F'.Sublist F ∧ Ext w w' := by
  obtain ⟨a, c, rfl, hl⟩ := Rs.form ⟨F, h⟩
  have H := Lib.hid h
  clear h
  go_enter Try.func54, Try.ntmps54
  go_wp2_with fail
  refine (slices_Clone_Part _ _ _ _ H.out hn).mono ?_
  rintro e w1 ⟨v1, F1, rfl, ho, hF, hsub, he⟩
  obtain ⟨a1, c1, rfl, _⟩ := ho.form
  have hcp := ho.cap
  have HO := Lib.hid ho.oh
  have HX := Lib.hid (And.intro hF (And.intro hsub he))
  clear ho hF hsub he
  go_wp2_with fail
  refine (slices_Clip_Part _ _ _ _ hcp.1 hcp.2).mono ?_
  rintro e w2 ⟨rfl, rfl⟩
  go_wp2
  go_ret
  exact ⟨_, F1, rfl, HO.out, HX.out⟩
theorem elChannel : El Try.prog 38 Channel := El.of (z := .agg #[.int .i64 0, .int .i64 0, .int .i64 0, .int .i64 0]) (n := 4) (b := 32) (by kernel_rfl) rfl rfl (by decide)
theorem slices_Clone_Channel (v : Value) (xs : List Channel) (w : World) (F : List Nat) (h : Sl w v xs F) (hn : xs.length ≤ 100000000) :
    Calls Try.prog 58 #[v] w fun e w' => ∃ v' F', e = .returned v' ∧ Oa 38 w.heap.size w' v' xs F' ∧ (∀ b ∈ F', b ∈ F) ∧ F'.Sublist F ∧ Ext w w' := by
  have hnil : ∀ (a : Option Addr) (n c : Nat), (binOp .eql 24 (.slice a n c) (.slice none 0 0)).run Try.prog w = .ok (.bool a.isNone) w := fun a n c => Go.Lib.run_eql_slice_nil w 24 38 a n c 0 0 Try.underlying24
  obtain ⟨a, c, rfl, hl, hc, ⟨rfl, rfl⟩ | ⟨hne, b, o, F', rfl, rfl, hr⟩⟩ := h
  · cases a with
    | none =>
      go_enter Try.func58, Try.ntmps58
      go_wp2
      go_ret
      exact ⟨_, [], rfl, Oa.nil _ _ _, by simp, by simp, Ext.refl _⟩
    | some p =>
      go_enter Try.func58, Try.ntmps58
      go_wp2
      go_ret
      exact ⟨_, [], rfl, Oa.lit0 _ _, by simp, by simp, (Ext.refl _).alloc _⟩
  · have hpos : 0 < xs.length := List.length_pos_iff.2 hne
    have HR : Hid (∀ ob, Row (w.alloc ob) b o xs F') := Lib.hid (fun ob => hr.keep (((Ext.refl w).alloc ob).block b (hr.lt hne)) (fun k hk => ((Ext.refl w).alloc ob).block k (hr.inh k hk)))
    have HI : Hid (∀ k ∈ F', k < w.heap.size) := Lib.hid hr.inh
    clear hr
    go_enter Try.func58, Try.ntmps58
    go_wp2_with (at_builtin; refine wpl_app (α := Channel) rfl _ _ 24 rfl 38 Try.underlying24 elChannel (L := w.heap.size) (v := .slice (some ⟨w.heap.size, 0, none⟩) 0 0) (xs := []) (ys := xs) rfl (Oa.lit0 _ _) rfl rfl (HR.out _) (by omega) (fun k hk e => by cases e; exact absurd (HI.out _ hk) (Nat.lt_irrefl _)) (by simp; omega) (by simp) ?_; intro v' w' hO' hgr; have HO2 := Lib.hid hO'; have HQ2 := Lib.hid (Ext.grown ((Ext.refl w).alloc _) hgr (fun k hk => by cases hk; exact Nat.le_refl _)); clear hO' hgr; obtain ⟨ao2, co2, rfl, _⟩ := HO2.out.form)
    go_ret
    exact ⟨_, F', rfl, by simpa using HO2.out, fun b hb => by simp [hb], List.sublist_cons_self _ _, HQ2.out⟩
theorem slices_Clip_Channel (n c : Nat) (w : World) (a : Option Addr) (hc : n ≤ c) (hl : c ≤ 9223372036854775807) :
    Calls Try.prog 57 #[.slice a n c] w fun e w' => e = .returned (.slice a n n) ∧ w = w' := by
  go_enter Try.func57, Try.ntmps57
  go_wp2
  go_ret
  exact ⟨rfl, rfl⟩
theorem impl_clone_Channel (v : Value) (xs : List Channel) (w : World) (F : List Nat) (h : Sl w v xs F) (hn : xs.length ≤ 100000000) :
    Calls Try.prog 24 #[v] w fun e w' => ∃ v' F', e = .returned v' ∧ Oh w.heap.size w' v' xs F' ∧ (∀ b ∈ F', b ∈ F) ∧ F'.Sublist F ∧ Ext w w' := by
  obtain ⟨a, c, rfl, hl⟩ := Rs.form ⟨F, h⟩
  have H := Lib.hid h
  clear h
  go_enter Try.func24, Try.ntmps24
  go_wp2_with fail
  refine (slices_Clone_Channel _ _ _ _ H.out hn).mono ?_
  rintro e w1 ⟨v1, F1, rfl, ho, hF, hsub, he⟩
  obtain ⟨a1, c1, rfl, _⟩ := ho.form
  have hcp := ho.cap
  have HO := Lib.hid ho.oh
  have HX := Lib.hid (And.intro hF (And.intro hsub he))
  clear ho hF hsub he
  go_wp2_with fail
  refine (slices_Clip_Channel _ _ _ _ hcp.1 hcp.2).mono ?_
  rintro e w2 ⟨rfl, rfl⟩
  go_wp2
  go_ret
  exact ⟨_, F1, rfl, HO.out, HX.out⟩
theorem elSlot : El Try.prog 45 Slot := El.of (z := .agg #[.int .i64 0, .int .i64 0]) (n := 2) (b := 16) (by kernel_rfl) rfl rfl (by decide)
theorem slices_Clone_Slot (v : Value) (xs : List Slot) (w : World) (F : List Nat) (h : Sl w v xs F) (hn : xs.length ≤ 100000000) :
    Calls Try.prog 88 #[v] w fun e w' => ∃ v' F', e = .returned v' ∧ Oa 45 w.heap.size w' v' xs F' ∧ (∀ b ∈ F', b ∈ F) ∧ F'.Sublist F ∧ Ext w w' := by
  have hnil : ∀ (a : Option Addr) (n c : Nat), (binOp .eql 25 (.slice a n c) (.slice none 0 0)).run Try.prog w = .ok (.bool a.isNone) w := fun a n c => Go.Lib.run_eql_slice_nil w 25 45 a n c 0 0 Try.underlying25
  obtain ⟨a, c, rfl, hl, hc, ⟨rfl, rfl⟩ | ⟨hne, b, o, F', rfl, rfl, hr⟩⟩ := h
  · cases a with
    | none =>
      go_enter Try.func88, Try.ntmps88
      go_wp2
      go_ret
      exact ⟨_, [], rfl, Oa.nil _ _ _, by simp, by simp, Ext.refl _⟩
    | some p =>
      go_enter Try.func88, Try.ntmps88
      go_wp2
      go_ret
      exact ⟨_, [], rfl, Oa.lit0 _ _, by simp, by simp, (Ext.refl _).alloc _⟩
  · have hpos : 0 < xs.length := List.length_pos_iff.2 hne
    have HR : Hid (∀ ob, Row (w.alloc ob) b o xs F') := Lib.hid (fun ob => hr.keep (((Ext.refl w).alloc ob).block b (hr.lt hne)) (fun k hk => ((Ext.refl w).alloc ob).block k (hr.inh k hk)))
    have HI : Hid (∀ k ∈ F', k < w.heap.size) := Lib.hid hr.inh
    clear hr
    go_enter Try.func88, Try.ntmps88
    go_wp2_with (at_builtin; refine wpl_app (α := Slot) rfl _ _ 25 rfl 45 Try.underlying25 elSlot (L := w.heap.size) (v := .slice (some ⟨w.heap.size, 0, none⟩) 0 0) (xs := []) (ys := xs) rfl (Oa.lit0 _ _) rfl rfl (HR.out _) (by omega) (fun k hk e => by cases e; exact absurd (HI.out _ hk) (Nat.lt_irrefl _)) (by simp; omega) (by simp) ?_; intro v' w' hO' hgr; have HO2 := Lib.hid hO'; have HQ2 := Lib.hid (Ext.grown ((Ext.refl w).alloc _) hgr (fun k hk => by cases hk; exact Nat.le_refl _)); clear hO' hgr; obtain ⟨ao2, co2, rfl, _⟩ := HO2.out.form)
    go_ret
    exact ⟨_, F', rfl, by simpa using HO2.out, fun b hb => by simp [hb], List.sublist_cons_self _ _, HQ2.out⟩
theorem slices_Clip_Slot (n c : Nat) (w : World) (a : Option Addr) (hc : n ≤ c) (hl : c ≤ 9223372036854775807) :
    Calls Try.prog 87 #[.slice a n c] w fun e w' => e = .returned (.slice a n n) ∧ w = w' := by
  go_enter Try.func87, Try.ntmps87
  go_wp2
  go_ret
  exact ⟨rfl, rfl⟩
theorem impl_clone_Slot (v : Value) (xs : List Slot) (w : World) (F : List Nat) (h : Sl w v xs F) (hn : xs.length ≤ 100000000) :
    Calls Try.prog 55 #[v] w fun e w' => ∃ v' F', e = .returned v' ∧ Oh w.heap.size w' v' xs F' ∧ (∀ b ∈ F', b ∈ F) ∧ F'.Sublist F ∧ Ext w w' := by
  obtain ⟨a, c, rfl, hl⟩ := Rs.form ⟨F, h⟩
  have H := Lib.hid h
  clear h
  go_enter Try.func55, Try.ntmps55
  go_wp2_with fail
  refine (slices_Clone_Slot _ _ _ _ H.out hn).mono ?_
  rintro e w1 ⟨v1, F1, rfl, ho, hF, hsub, he⟩
  obtain ⟨a1, c1, rfl, _⟩ := ho.form
  have hcp := ho.cap
  have HO := Lib.hid ho.oh
  have HX := Lib.hid (And.intro hF (And.intro hsub he))
  clear ho hF hsub he
  go_wp2_with fail
  refine (slices_Clip_Slot _ _ _ _ hcp.1 hcp.2).mono ?_
  rintro e w2 ⟨rfl, rfl⟩
  go_wp2
  go_ret
  exact ⟨_, F1, rfl, HO.out, HX.out⟩
end Sk

namespace Sk
open Go Go.Proofs Go.RowKit
set_option maxHeartbeats 400000
set_option maxRecDepth 100000
set_option linter.unusedVariables false
set_option linter.unusedSimpArgs false
/-- A channel that lets something flow from f to t. -/
def M.dc (f t : Int) (c : Channel) : Bool := (c.From == f && c.To == t) || (c.Kind == 3 && c.From == t && c.To == f)
def M.dir (cs : List Channel) (f t : Int) : Bool := (f == t) || cs.any (M.dc f t)
theorem impl_direct_1 (v : Value) (x : Channel) (b1 b2 : Nat) (f t : Int) (w : World) (h : Rv w v x) (hb1 : b1 < w.heap.size) (hb2 : b2 < w.heap.size) (hc1 : w.cell? ⟨b1, 0, none⟩ = some (.int .i64 f)) (hc2 : w.cell? ⟨b2, 0, none⟩ = some (.int .i64 t)) :
    Calls Try.prog 103 #[v, .pointer (some ⟨b1, 0, none⟩), .pointer (some ⟨b2, 0, none⟩)] w fun e w' => e = .returned (.bool (M.dc f t x)) ∧ Ext w w' := by
  obtain ⟨rfl, hr0, hr1, hr2, hr3⟩ := h.openChannel
  clear h
  cases hA : (x.From == f) <;> cases hB : (x.To == t) <;> cases hK : (x.Kind == 3) <;> cases hC : (x.From == t) <;> cases hD : (x.To == f)
  all_goals
    have hm := Lib.hid (by unfold M.dc; rw [hA, hB, hK, hC, hD] : M.dc f t x = _)
    go_enter Try.func103, Try.ntmps103
    go_wp2
    go_ret
    exact ⟨wp_cond_ret hm.out.symm, (Ext.refl w).alloc _⟩
theorem impl_direct (v : Value) (cs : List Channel) (f t : Int) (w : World) (h : Rs w v cs) :
    Calls Try.prog 97 #[v, .int .i64 f, .int .i64 t] w fun e w' => e = .returned (.bool (M.dir cs f t)) ∧ Ext w w' := by
  have e0 := Lib.hid (((Ext.refl w).alloc (.cells #[.int .i64 f] 3)).alloc (.cells #[.int .i64 t] 3))
  have H := Lib.hid h
  obtain ⟨a, c, rfl, hl⟩ := h.form
  clear h
  cases hA : (f == t)
  · have hm := Lib.hid (by unfold M.dir; rw [hA]; rfl : M.dir cs f t = cs.any (M.dc f t))
    have HX := Lib.hid (has_Channel 103 #[.pointer (some ⟨w.heap.size, 0, none⟩), .pointer (some ⟨w.heap.size + 1, 0, none⟩)] (M.dc f t) _ cs _ (H.out.ext e0.out) (enter_of Try.func103 (by kernel_rfl) (by kernel_rfl))
      (fun w1 v x he _ hv => impl_direct_1 v x _ _ f t w1 hv (by have := he.sz; simp at this; omega) (by have := he.sz; simp at this; omega) (by rw [(bcell he).1 _ _ (by simp; omega)]; simp) (by rw [(bcell he).1 _ _ (by simp)]; simp)))
    go_enter Try.func97, Try.ntmps97
    go_wp2_with (go_at_call 68; refine HX.out.mono ?_; rintro e w' ⟨rfl, he⟩)
    go_ret
    exact ⟨wp_cond_ret hm.out.symm, e0.out.tr he⟩
  · have hm := Lib.hid (by unfold M.dir; rw [hA]; rfl : M.dir cs f t = true)
    go_enter Try.func97, Try.ntmps97
    go_wp2
    go_ret
    exact ⟨wp_cond_ret hm.out.symm, e0.out⟩
theorem any_take_succ {α : Type} (p : α → Bool) {xs : List α} {k : Nat} {x : α} (hk : xs[k]? = some x) : (xs.take (k + 1)).any p = ((xs.take k).any p || p x) := by
  rw [take_snoc hk, List.any_append]; simp
theorem or_assoc3 (a b c : Bool) : (a || (b || c)) = ((a || b) || c) := (Bool.or_assoc a b c).symm
theorem spec_FlowDirect (v : Value) (cs : List Channel) (m : Nat) (f t : Nat) (w : World) (h : Rs w v cs) (hv : M.csv cs m = true) (hf : f < m) (ht : t < m) :
    Calls Try.prog 102 #[v, .int .i64 m, .int .i64 f, .int .i64 t] w fun e w' => e = .returned (.bool (M.dir cs f t)) ∧ Ext w w' := by
  obtain ⟨a, c, rfl, hl⟩ := h.form
  have H := Lib.hid h
  clear h
  have hm5 : m ≤ 5 := by
    have := hv; unfold M.csv at this; simp only [Bool.and_eq_true, M.inn_iff] at this; omega
  have h1 := M.inn_t (n := f) (lo := 0) (hi := m - 1) (by omega) (by omega)
  have h2 := M.inn_t (n := t) (lo := 0) (hi := m - 1) (by omega) (by omega)
  go_enter Try.func102, Try.ntmps102
  go_wp2_with (first | (go_at_call 61; refine (spec_In _ _ _ _).mono ?_; rintro e w' ⟨rfl, rfl⟩) | (go_at_call 39; refine (spec_ChannelsValid _ _ _ _ H.out).mono ?_; rintro e w1 ⟨rfl, he1⟩; have E1 := Lib.hid he1; clear he1))
  go_loopw [9, 10] (fun u i wr => ∃ k : Nat, k ≤ cs.length ∧ i = .int .i64 k ∧ u = .bool (((f : Int) == t) || (cs.take k).any (M.dc f t)) ∧ Ext w wr) (fun _ i _ => cs.length - (intOf i).toNat)
  case atStart => exact ⟨0, Nat.zero_le _, rfl, by simp, E1.out⟩
  case round =>
    obtain ⟨k, hk, rfl, rfl, hq⟩ := hrel
    have HQ := Lib.hid hq
    clear hq
    by_cases hlt : k < cs.length
    · obtain ⟨b, o, x, rfl, hb, hx, hc0, hc1, hc2, hc3, hr0, hr1, hr2, hr3, hv⟩ := (H.out.ext HQ.out).atChannel k hlt
      clear H
      have hst := Lib.hid (any_take_succ (M.dc f t) hx.out)
      generalize hg : (((f : Int) == t) || (cs.take k).any (M.dc f t)) = acc at *
      have HG := Lib.hid hg
      clear hg
      cases acc
      · cases hA : (x.From == f) <;> cases hB : (x.To == t) <;> cases hK : (x.Kind == 3) <;> cases hC : (x.From == t) <;> cases hD : (x.To == f)
        all_goals
          have hm := Lib.hid (by unfold M.dc; rw [hA, hB, hK, hC, hD] : M.dc f t x = _)
          go_wp2
          go_roundw
          case rel => exact ⟨k + 1, by omega, by go_num, by rw [hst.out, or_assoc3, HG.out, hm.out]; rfl, (HQ.out.alloc _)⟩
          case measure => simp [intOf]; omega
      · go_wp2
        go_roundw
        case rel => exact ⟨k + 1, by omega, by go_num, by rw [hst.out, or_assoc3, HG.out]; rfl, (HQ.out.alloc _)⟩
        case measure => simp [intOf]; omega
    · obtain rfl : k = cs.length := by omega
      rw [List.take_length]
      clear H
      go_wp2
      go_ret
      exact ⟨rfl, HQ.out⟩
end Sk

