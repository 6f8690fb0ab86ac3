/- Contracts of functions of the given program, and lemmas for them: each theorem states the condition under which it holds. -/
import Derived.Test.YtoekeafibhnkgaaChecked
import Derived.Test.YtoekeafibhnkgaaScal
import Derived.Test.YtoekeafibhnkgaaFind
import Derived.Test.YtoekeafibhnkgaaApp
namespace Sk
open Go Go.Proofs Go.RowKit
set_option maxHeartbeats 400000
set_option maxRecDepth 100000
set_option linter.unusedVariables false
set_option linter.unusedSimpArgs false
theorem not_any_not {α : Type} (f : α → Bool) (xs : List α) : (!xs.any fun x => !f x) = xs.all f := by
  induction xs with
  | nil => rfl
  | cons x xs ih => simp only [List.any_cons, List.all_cons, Bool.not_or, Bool.not_not, ih]
theorem and_t {a b : Bool} (h : a = true) : (a && b) = b := by simp [h]
theorem and_f {a b : Bool} (h : a = false) : (a && b) = false := by simp [h]
/-- Box values stay behind what follows. -/
theorem Ext.two {a b c : World} (h : Ext a b) (k : Ext b c) : Ext a c := h.tr k
def M.wv (x : Window) : Bool := M.inn x.Base 0 4095 && M.inn x.Size 1 (4096 - x.Base)
theorem impl_Window_valid (v : Value) (x : Window) (w : World) (h : Rv w v x) :
    Calls Try.prog 21 #[v] w fun e w' => e = .returned (.bool (M.wv x)) ∧ Ext w w' := by
  obtain ⟨rfl, h1, h2⟩ := h.openWindow
  by_cases hb : M.inn x.Base 0 4095 = true
  · have hm := Lib.hid (and_t hb : M.wv x = _)
    have hb2 := M.inn_iff.1 hb
    obtain ⟨hb3, hb4⟩ := hb2
    go_enter Try.func21, Try.ntmps21
    go_wp2_with (go_at_call 11; refine (impl_in _ _ _ _).mono ?_; rintro e w' ⟨rfl, rfl⟩)
    go_ret
    exact ⟨wp_cond_ret hm.out.symm, (Ext.refl w).alloc _⟩
  · rw [Bool.not_eq_true] at hb
    have hm := Lib.hid (and_f hb : M.wv x = _)
    go_enter Try.func21, Try.ntmps21
    go_wp2_with (go_at_call 11; refine (impl_in _ _ _ _).mono ?_; rintro e w' ⟨rfl, rfl⟩)
    go_ret
    exact ⟨wp_cond_ret hm.out.symm, (Ext.refl w).alloc _⟩
theorem impl_WindowsValid_1 (v : Value) (x : Window) (w : World) (h : Rv w v x) :
    Calls Try.prog 20 #[v] w fun e w' => e = .returned (.bool (!M.wv x)) ∧ Ext w w' := by
  have H := Lib.hid h
  obtain ⟨rfl, h1, h2⟩ := h.openWindow
  clear h
  go_enter Try.func20, Try.ntmps20
  go_wp2_with (go_at_call 21; refine (impl_Window_valid _ x _ (H.out.ext ((Ext.refl w).alloc _))).mono ?_; rintro e w' ⟨rfl, he⟩)
  go_ret
  exact ⟨rfl, ((Ext.refl w).alloc _).tr he⟩
def M.wsv (xs : List Window) : Bool := decide (xs.length ≤ 12) && xs.all M.wv
theorem impl_WindowsValid (v : Value) (xs : List Window) (w : World) (h : Rs w v xs) :
    Calls Try.prog 15 #[v] w fun e w' => e = .returned (.bool (M.wsv xs)) ∧ Ext w w' := by
  have HX := Lib.hid (has_Window 20 #[] (fun x => !M.wv x) v xs w h (enter_of Try.func20 (by kernel_rfl) (by kernel_rfl)) (fun w1 v x _ _ hv => impl_WindowsValid_1 v x w1 hv))
  obtain ⟨a, c, rfl, hl⟩ := h.form
  clear h
  by_cases hle : xs.length ≤ 12
  · have hm := Lib.hid ((not_any_not M.wv xs).trans (and_t (decide_eq_true hle)).symm : _ = M.wsv xs)
    go_enter Try.func15, Try.ntmps15
    go_wp2_with (go_at_call 19; refine HX.out.mono ?_; rintro e w' ⟨rfl, he⟩)
    go_ret
    exact ⟨wp_cond_ret hm.out, he⟩
  · have hm := Lib.hid (and_f (decide_eq_false hle) : M.wsv xs = _)
    go_enter Try.func15, Try.ntmps15
    go_wp2
    go_ret
    exact ⟨wp_cond_ret hm.out.symm, .refl _⟩
def M.pv1 (p : Part) : Bool := M.wsv p.Windows && M.inn p.Cells 1 8
def M.psv (xs : List Part) : Bool := decide (xs.length ≤ 5) && xs.all M.pv1
def M.slv (n : Int) (x : Slot) : Bool := M.inn x.Ticks 1 20 && M.inn x.Who (-1) (n - 1)
def M.ssv (xs : List Slot) (n : Int) : Bool := M.inn n 0 5 && (M.inn xs.length 1 12 && xs.all (M.slv n))
end Sk

namespace Sk
open Go Go.Proofs Go.RowKit
set_option maxHeartbeats 400000
set_option maxRecDepth 100000
set_option linter.unusedVariables false
set_option linter.unusedSimpArgs false
theorem not_f {b : Bool} (h : b = false) : (!b) = true := by rw [h]; rfl
theorem not_t {b : Bool} (h : b = true) : (!b) = false := by rw [h]; rfl
/-- A channel of n partitions. -/
noncomputable def M.cv (n : Int) (c : Channel) : Bool := M.sized c.Kind c.Size && (M.inn c.From 0 (n - 1) && (M.inn c.To 0 (n - 1) && !(c.From == c.To)))
noncomputable def M.csv (xs : List Channel) (n : Int) : Bool := M.inn n 0 5 && (decide (xs.length ≤ 8) && xs.all (M.cv n))
theorem M.sized_iff {k s : Int} : M.sized k s = true ↔ (k = 1 ∧ s = 1 ∨ (k = 2 ∨ k = 3) ∧ 1 ≤ s ∧ s ≤ 4) := Bo.iff
theorem M.cv_iff {n : Int} {c : Channel} : M.cv n c = true ↔ (c.Kind = 1 ∧ c.Size = 1 ∨ (c.Kind = 2 ∨ c.Kind = 3) ∧ 1 ≤ c.Size ∧ c.Size ≤ 4) ∧ (0 ≤ c.From ∧ c.From ≤ n - 1) ∧ (0 ≤ c.To ∧ c.To ≤ n - 1) ∧ c.From ≠ c.To := by
  unfold M.cv
  simp only [Bool.and_eq_true, M.sized_iff, M.inn_iff, Bool.not_eq_true', beq_eq_false_iff_ne]
noncomputable def M.setv (s : Setup) : Bool := M.psv s.Parts && (M.csv s.Channels s.Parts.length && M.ssv s.Slots s.Parts.length)
end Sk

namespace Sk
open Go Go.Proofs Go.RowKit
set_option maxHeartbeats 400000
set_option maxRecDepth 100000
set_option linter.unusedVariables false
set_option linter.unusedSimpArgs false
/-- Numbers that lie one behind the other. -/
def CI (w : World) (b : Nat) : Nat → List Int → Prop
  | _, [] => True
  | o, n :: ns => w.cell? ⟨b, o, none⟩ = some (.int .i64 n) ∧ rng n ∧ CI w b (o + 1) ns
theorem CI.row {w : World} {b : Nat} {ns : List Int} : ∀ {o : Nat}, CI w b o ns → Row w b o ns [] := by
  induction ns with
  | nil => intro o _; rfl
  | cons n ns ih =>
    intro o h
    exact ⟨[.int .i64 n], [], [], ⟨rfl, h.2.1, rfl⟩, fun j u hj => by
      cases j with
      | zero => simp at hj; subst hj; exact h.1
      | succ j => simp at hj, rfl, ih h.2.2⟩
theorem rng_of {n : Int} (h1 : -9223372036854775808 ≤ n) (h2 : n ≤ 9223372036854775807) : rng n := ⟨h1, h2⟩
end Sk

