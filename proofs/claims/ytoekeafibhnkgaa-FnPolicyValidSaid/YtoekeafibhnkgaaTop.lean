/- Contracts of functions of the given program, and lemmas for them: each theorem states the condition under which it holds. -/
import Derived.Test.YtoekeafibhnkgaaChecked
import Derived.Lib.SliceRun
import Derived.Test.YtoekeafibhnkgaaFoc
import Derived.Test.YtoekeafibhnkgaaApp
import Derived.Test.YtoekeafibhnkgaaValid
namespace Sk
open Go Go.Proofs Go.RowKit
set_option maxHeartbeats 400000
set_option maxRecDepth 100000
set_option linter.unusedVariables false
set_option linter.unusedSimpArgs false
/-- A machine with its lists marked: what a struct handed over by value shows. -/
def Machine.mkT (x : Machine) (k : Int) : Machine :=
  { Plan := GT.mkE x.Plan k, Programs := GT.mkE x.Programs (k + (GT.ct x.Plan : Nat)), Cores := GT.mkE x.Cores (k + (GT.ct x.Plan : Nat) + (GT.ct x.Programs : Nat)), Holds := GT.mkE x.Holds (k + (GT.ct x.Plan : Nat) + (GT.ct x.Programs : Nat) + (GT.ct x.Cores : Nat)), Tick := x.Tick }
def Machine.ctT (x : Machine) : Nat := GT.ct x.Plan + GT.ct x.Programs + GT.ct x.Cores + GT.ct x.Holds
def Watch.mkT (x : Watch) (k : Int) : Watch := { Box := x.Box.mkT k, States := GT.mkE x.States (k + (x.Box.ctT : Nat)) }
def Watch.ctT (x : Watch) : Nat := x.Box.ctT + GT.ct x.States
def Setup.mkT (x : Setup) (k : Int) : Setup := GT.mkE x k
def Setup.ctT (x : Setup) : Nat := GT.ct x
def Board.mkT (x : Board) (k : Int) : Board := GT.mkE x k
def Board.ctT (x : Board) : Nat := GT.ct x
end Sk

namespace Sk
open Go Go.Proofs Go.RowKit
set_option maxHeartbeats 400000
set_option maxRecDepth 100000
set_option linter.unusedVariables false
set_option linter.unusedSimpArgs false
/-- A list whose own block is new; its elements lie in F. -/
def Oh {α : Type} [GT α] (L : Nat) (w : World) (v : Value) (xs : List α) (F : List Nat) : Prop :=
  (v = .slice none 0 0 ∧ xs = [] ∧ F = []) ∨ ∃ g, v = .slice (some ⟨g, 0, none⟩) xs.length xs.length ∧ L ≤ g ∧ Fz w g ∧ xs.length ≤ maxLen ∧ Row w g 0 xs F ∧ g ∉ F
theorem Oa.oh {α : Type} [GT α] {e : TypeId} {L : Nat} {w : World} {a : Option Addr} {n c : Nat} {xs : List α} {F : List Nat} (h : Oa e L w (.slice a n c) xs F) : Oh L w (.slice a n n) xs F := by
  rcases h with ⟨h, rfl, rfl⟩ | ⟨g, cap, cur, h, hL, hg, hl, hc, hs, hr, hn⟩
  · cases h; exact .inl ⟨rfl, rfl, rfl⟩
  · cases h; exact .inr ⟨g, rfl, hL, ⟨_, _, Bk.ofA hg⟩, Nat.le_trans hl hc, hr, hn⟩
theorem Oh.os {α : Type} [GT α] {L : Nat} {w : World} {v : Value} {xs : List α} (h : Oh L w v xs []) : Os L w v xs := by
  rcases h with ⟨rfl, rfl, _⟩ | ⟨g, rfl, hL, hz, hl, hr, _⟩
  · exact ⟨[], ⟨none, 0, rfl, Nat.le_refl _, Nat.zero_le _, .inl ⟨rfl, rfl⟩⟩, Own.nil _ _⟩
  · by_cases hx : xs = []
    · subst hx; exact ⟨[], ⟨some ⟨g, 0, none⟩, 0, rfl, Nat.le_refl _, Nat.zero_le _, .inl ⟨rfl, rfl⟩⟩, Own.nil _ _⟩
    · exact ⟨[g], ⟨_, _, rfl, Nat.le_refl _, hl, .inr ⟨hx, g, 0, [], rfl, rfl, hr⟩⟩, by simp, fun b hb => by rw [List.mem_singleton] at hb; subst hb; exact ⟨hL, hz⟩⟩
end Sk

namespace Sk
open Go Go.Proofs Go.RowKit
set_option maxHeartbeats 400000
set_option maxRecDepth 100000
set_option linter.unusedVariables false
set_option linter.unusedSimpArgs false
/-- A channel that lets something flow from f to t. -/
def M.dc (f t : Int) (c : Channel) : Bool := (c.From == f && c.To == t) || (c.Kind == 3 && c.From == t && c.To == f)
def M.dir (cs : List Channel) (f t : Int) : Bool := (f == t) || cs.any (M.dc f t)
end Sk

