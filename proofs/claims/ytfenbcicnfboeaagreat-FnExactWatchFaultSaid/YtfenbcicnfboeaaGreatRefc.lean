/- Contracts of functions of the given program, and lemmas for them: each theorem states the condition under which it holds. -/
import Derived.Test.YtfenbcicnfboeaaGreatChecked
import Derived.Deep.CutBlock
import Derived.Test.YtfenbcicnfboeaaGreatAcc
import Derived.Test.YtfenbcicnfboeaaGreatClone
import Derived.Test.YtfenbcicnfboeaaGreatTop
namespace Sk
open Go Go.Proofs Go.RowKit
set_option maxHeartbeats 400000
set_option maxRecDepth 100000
set_option linter.unusedVariables false
set_option linter.unusedSimpArgs false
/-- The world under a name: what is needed of it is said of it. -/
theorem abs_world {P : Program} {c : Code} {a : Act} {W : World} {Q : Exit → Act → World → Prop} (F : World → Prop) (hF : F W) (h : ∀ W1, F W1 → Code.wp P c Q a W1) : Code.wp P c Q a W := h W hF
theorem agg_inj {cs : List Value} {ar : Array Value} (h : (.agg ar : Value) = .agg cs.toArray) : ar = cs.toArray := by cases h; rfl
end Sk
namespace Sk
open Go Go.RowKit
set_option linter.unusedVariables false
set_option linter.unusedSimpArgs false
class CtB (α : Type) [GT α] : Prop where
 le : ∀ x : α, GT.ct x ≤ 16 * GT.tot x + 6
theorem ct_list {α : Type} [GT α] [CtB α] (xs : List α) : GT.ct xs ≤ 16 * GT.tot xs := by
 have h : (xs.map GT.ct).sum ≤ 16 * (xs.map GT.tot).sum + 6 * xs.length := by
  induction xs with
  | nil => simp
  | cons x xs ih =>
   have := CtB.le x
   simp only [List.map_cons, List.sum_cons, List.length_cons]; omega
 show (xs.map GT.ct).sum ≤ 16 * (xs.length + (xs.map GT.tot).sum)
 omega
instance : CtB Int := ⟨fun x => by show 1 ≤ _; omega⟩
instance {α : Type} [GT α] [CtB α] : CtB (List α) := ⟨fun xs => by have := ct_list xs; omega⟩
instance : CtB Window := ⟨fun x => by
 have h1 : GT.ct x = (GT.ct x.Base + GT.ct x.Size + GT.ct x.Write) := rfl
 have h2 : GT.tot x = (GT.tot x.Base + GT.tot x.Size + GT.tot x.Write) := rfl
 have g0 : GT.ct x.Base = 1 := rfl
 have g1 : GT.ct x.Size = 1 := rfl
 have g2 : GT.ct x.Write = 1 := rfl
 omega⟩
instance : CtB Part := ⟨fun x => by
 have h1 : GT.ct x = (GT.ct x.Windows + GT.ct x.Cells) := rfl
 have h2 : GT.tot x = (GT.tot x.Windows + GT.tot x.Cells) := rfl
 have g0 := ct_list x.Windows
 have g1 : GT.ct x.Cells = 1 := rfl
 omega⟩
instance : CtB Channel := ⟨fun x => by
 have h1 : GT.ct x = (GT.ct x.Kind + GT.ct x.From + GT.ct x.To + GT.ct x.Size) := rfl
 have h2 : GT.tot x = (GT.tot x.Kind + GT.tot x.From + GT.tot x.To + GT.tot x.Size) := rfl
 have g0 : GT.ct x.Kind = 1 := rfl
 have g1 : GT.ct x.From = 1 := rfl
 have g2 : GT.ct x.To = 1 := rfl
 have g3 : GT.ct x.Size = 1 := rfl
 omega⟩
instance : CtB Slot := ⟨fun x => by
 have h1 : GT.ct x = (GT.ct x.Who + GT.ct x.Ticks) := rfl
 have h2 : GT.tot x = (GT.tot x.Who + GT.tot x.Ticks) := rfl
 have g0 : GT.ct x.Who = 1 := rfl
 have g1 : GT.ct x.Ticks = 1 := rfl
 omega⟩
instance : CtB Order := ⟨fun x => by
 have h1 : GT.ct x = (GT.ct x.Op + GT.ct x.A + GT.ct x.B) := rfl
 have h2 : GT.tot x = (GT.tot x.Op + GT.tot x.A + GT.tot x.B) := rfl
 have g0 : GT.ct x.Op = 1 := rfl
 have g1 : GT.ct x.A = 1 := rfl
 have g2 : GT.ct x.B = 1 := rfl
 omega⟩
instance : CtB Core := ⟨fun x => by
 have h1 : GT.ct x = (GT.ct x.Cells + GT.ct x.At + GT.ct x.Stopped) := rfl
 have h2 : GT.tot x = (GT.tot x.Cells + GT.tot x.At + GT.tot x.Stopped) := rfl
 have g0 := ct_list x.Cells
 have g1 : GT.ct x.At = 1 := rfl
 have g2 : GT.ct x.Stopped = 1 := rfl
 omega⟩
instance : CtB Hold := ⟨fun x => by
 have h1 : GT.ct x = (GT.ct x.Lst) := rfl
 have h2 : GT.tot x = (GT.tot x.Lst) := rfl
 have g0 := ct_list x.Lst
 omega⟩
instance : CtB Machine := ⟨fun x => by
 have h1 : GT.ct x = ((GT.ct x.Plan.Parts + GT.ct x.Plan.Channels + GT.ct x.Plan.Slots) + GT.ct x.Programs + GT.ct x.Cores + GT.ct x.Holds + GT.ct x.Tick) := rfl
 have h2 : GT.tot x = ((GT.tot x.Plan.Parts + GT.tot x.Plan.Channels + GT.tot x.Plan.Slots) + GT.tot x.Programs + GT.tot x.Cores + GT.tot x.Holds + GT.tot x.Tick) := rfl
 have g0 := ct_list x.Plan.Parts
 have g1 := ct_list x.Plan.Channels
 have g2 := ct_list x.Plan.Slots
 have g3 := ct_list x.Programs
 have g4 := ct_list x.Cores
 have g5 := ct_list x.Holds
 have g6 : GT.ct x.Tick = 1 := rfl
 omega⟩
instance : CtB Health := ⟨fun x => by
 have h1 : GT.ct x = (GT.ct x.Frozen + GT.ct x.Restarts) := rfl
 have h2 : GT.tot x = (GT.tot x.Frozen + GT.tot x.Restarts) := rfl
 have g0 : GT.ct x.Frozen = 1 := rfl
 have g1 : GT.ct x.Restarts = 1 := rfl
 omega⟩
theorem sum_le {α : Type} (f : α → Nat) (B : Nat) (xs : List α) (h : ∀ x ∈ xs, f x ≤ B) : (xs.map f).sum ≤ xs.length * B := by
 induction xs with
 | nil => simp
 | cons x xs ih =>
  have h1 := h x (List.mem_cons_self ..)
  have h2 := ih (fun y hy => h y (List.mem_cons_of_mem _ hy))
  simp only [List.map_cons, List.sum_cons, List.length_cons, Nat.succ_mul]; omega
theorem tot_list {α : Type} [GT α] (B N : Nat) (xs : List α) (hl : xs.length ≤ N) (h : ∀ x ∈ xs, GT.tot x ≤ B) : GT.tot xs ≤ N + N * B := by
 have h1 := sum_le GT.tot B xs h
 have h2 := Nat.mul_le_mul_right B hl
 show xs.length + (xs.map GT.tot).sum ≤ _
 omega
theorem tot_ints (xs : List Int) : GT.tot xs = xs.length := by
 have : (xs.map GT.tot).sum = 0 := by
  induction xs with
  | nil => rfl
  | cons x xs ih => rw [List.map_cons, List.sum_cons, ih]; rfl
 show xs.length + (xs.map GT.tot).sum = _
 omega
theorem ctT_Machine (x : Machine) : x.ctT ≤ 16 * GT.tot x + 6 := by
 have h := CtB.le x
 have h1 : GT.ct x = GT.ct x.Plan + GT.ct x.Programs + GT.ct x.Cores + GT.ct x.Holds + GT.ct x.Tick := rfl
 have h2 : x.ctT = GT.ct x.Plan + GT.ct x.Programs + GT.ct x.Cores + GT.ct x.Holds := rfl
 omega
theorem ctT_Watch (x : Watch) : x.ctT ≤ 16 * GT.tot x + 6 := by
 have h := ctT_Machine x.Box
 have h3 := ct_list x.States
 have h1 : GT.tot x = GT.tot x.Box + GT.tot x.States := rfl
 have h2 : x.ctT = x.Box.ctT + GT.ct x.States := rfl
 omega
end Sk
