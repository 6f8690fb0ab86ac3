/- Contracts of functions of the given program, and lemmas for them: each theorem states the condition under which it holds. -/
import Derived.Test.YtoekeafibhnkgaaChecked
import Derived.Test.YtoekeafibhnkgaaDel
namespace Sk
open Go Go.Proofs Go.RowKit
set_option linter.unusedVariables false
set_option linter.unusedSimpArgs false
abbrev M.St := List Int × Bool
def M.nx (s : M.St) : Int := M.hd s.1
def M.ns (s : M.St) : M.St := (s.1.tail, s.2 || s.1.isEmpty)
def M.mx (m : Int) (s : M.St) : Int := M.many s.1 m
def M.ms (m : Int) (s : M.St) : M.St := (s.1.tail, M.manyB s.1 s.2 m)
/-- One less, as the machine reckons. -/
def M.dec (x : Int) : Int := if x = -9223372036854775808 then 9223372036854775807 else x - 1
def M.iter {α : Type} (f : M.St → α × M.St) : Nat → M.St → List α × M.St
  | 0, s => ([], s)
  | n + 1, s => ((M.iter f n s).1 ++ [(f (M.iter f n s).2).1], (f (M.iter f n s).2).2)
/-- The same, but nothing is read any more once reading has failed. -/
def M.iterB {α : Type} (f : M.St → α × M.St) : Nat → M.St → List α × M.St
  | 0, s => ([], s)
  | n + 1, s => if (M.iterB f n s).2.2 then M.iterB f n s else ((M.iterB f n s).1 ++ [(f (M.iterB f n s).2).1], (f (M.iterB f n s).2).2)
theorem M.iter_len {α : Type} (f : M.St → α × M.St) (n : Nat) (s : M.St) : (M.iter f n s).1.length = n := by
  induction n with
  | zero => rfl
  | succ n ih => simp only [M.iter, List.length_append, ih, List.length_cons, List.length_nil]
theorem M.iterB_len {α : Type} (f : M.St → α × M.St) (n : Nat) (s : M.St) : (M.iterB f n s).1.length ≤ n := by
  induction n with
  | zero => exact Nat.le_refl _
  | succ n ih =>
    simp only [M.iterB]
    split
    · omega
    · simp only [List.length_append, List.length_cons, List.length_nil]; omega
theorem M.iterB_bad {α : Type} (f : M.St → α × M.St) (s : M.St) : ∀ {n : Nat} (k : Nat), (M.iterB f n s).2.2 = true → M.iterB f (n + k) s = M.iterB f n s := by
  intro n k h
  induction k with
  | zero => rfl
  | succ k ih => rw [← Nat.add_assoc, M.iterB, ih, if_pos h]
def M.iW1 (s : M.St) : Window × M.St := (⟨M.nx s, M.nx (M.ns s), M.nx (M.ns (M.ns s)) == 1⟩, M.ns (M.ns (M.ns s)))
def M.iP1 (s : M.St) : Part × M.St :=
  (⟨(M.iter M.iW1 (M.mx 12 (M.ns s)).toNat (M.ms 12 (M.ns s))).1, M.nx s⟩, (M.iter M.iW1 (M.mx 12 (M.ns s)).toNat (M.ms 12 (M.ns s))).2)
def M.iC1 (s : M.St) : Channel × M.St := (⟨M.nx s, M.nx (M.ns s), M.nx (M.ns (M.ns s)), M.nx (M.ns (M.ns (M.ns s)))⟩, M.ns (M.ns (M.ns (M.ns s))))
def M.iS1 (s : M.St) : Slot × M.St := (⟨M.dec (M.nx s), M.nx (M.ns s)⟩, M.ns (M.ns s))
def M.iPs (s : M.St) : List Part × M.St := M.iter M.iP1 (M.mx 5 s).toNat (M.ms 5 s)
def M.iCs (s : M.St) : List Channel × M.St := M.iter M.iC1 (M.mx 8 s).toNat (M.ms 8 s)
def M.iSs (s : M.St) : List Slot × M.St := M.iter M.iS1 (M.mx 12 s).toNat (M.ms 12 s)
def M.iAll (s : M.St) : Setup := ⟨(M.iPs s).1, (M.iCs (M.iPs s).2).1, (M.iSs (M.iCs (M.iPs s).2).2).1⟩
def M.iEnd (s : M.St) : M.St := (M.iSs (M.iCs (M.iPs s).2).2).2
def M.sW1 (s : M.St) : Window × M.St := (⟨M.nx s, M.nx (M.ns s), M.nx (M.ns (M.ns s)) == 1⟩, ((M.ns (M.ns (M.ns s))).1, (M.ns (M.ns (M.ns s))).2 || !M.inn (M.nx (M.ns (M.ns s))) 0 1))
def M.sP1 (s : M.St) : Part × M.St :=
  (⟨(M.iterB M.sW1 (M.mx 12 (M.ns s)).toNat (M.ms 12 (M.ns s))).1, M.nx s⟩, (M.iterB M.sW1 (M.mx 12 (M.ns s)).toNat (M.ms 12 (M.ns s))).2)
def M.sPs (s : M.St) : List Part × M.St := M.iterB M.sP1 (M.mx 5 s).toNat (M.ms 5 s)
def M.sCs (s : M.St) : List Channel × M.St := M.iterB M.iC1 (M.mx 8 s).toNat (M.ms 8 s)
def M.sSs (s : M.St) : List Slot × M.St := M.iterB M.iS1 (M.mx 12 s).toNat (M.ms 12 s)
def M.sAll (s : M.St) : Setup := ⟨(M.sPs s).1, (M.sCs (M.sPs s).2).1, (M.sSs (M.sCs (M.sPs s).2).2).1⟩
def M.sEnd (s : M.St) : M.St := (M.sSs (M.sCs (M.sPs s).2).2).2
theorem M.many_bd (xs : List Int) {m : Int} (hm : 0 ≤ m) : 0 ≤ M.many xs m ∧ M.many xs m ≤ m := by
  unfold M.many
  split
  · rename_i h; exact M.inn_iff.1 h
  · exact ⟨Int.le_refl _, hm⟩
theorem M.hd_rng {W w : World} {v : Value} {xs : List Int} (h : Rs w v xs) : rng (M.hd xs) := by
  cases xs with
  | nil => exact rng_zero
  | cons x xs =>
    obtain ⟨a, c, rfl, _⟩ := h.form
    obtain ⟨b, o, y, _, _, hx, _, hr⟩ := h.atInt 0 (by simp)
    have := hx.out
    simp at this
    subst this; exact hr
end Sk
