/- Contracts of functions of the given program, and lemmas for them: each theorem states the condition under which it holds. -/
import Derived.Test.YtobfbjgflnhjpaaGreatChecked
import Derived.Deep.CutBlock
import Derived.Deep.CutRange
import Derived.Test.YtobfbjgflnhjpaaGreatCv
import Derived.Test.YtobfbjgflnhjpaaGreatNums
import Derived.Test.YtobfbjgflnhjpaaGreatValid
import Derived.Test.YtobfbjgflnhjpaaGreatBuild
import Derived.Test.YtobfbjgflnhjpaaGreatRds
import Derived.Test.YtobfbjgflnhjpaaGreatRefc
import Derived.Test.YtobfbjgflnhjpaaGreatChan
import Derived.Test.YtobfbjgflnhjpaaGreatFind
import Derived.Test.YtobfbjgflnhjpaaGreatReadI
import Derived.Test.YtobfbjgflnhjpaaGreatAcc
import Derived.Test.YtobfbjgflnhjpaaGreatCopy
import Derived.Test.YtobfbjgflnhjpaaGreatTop
import Derived.Test.YtobfbjgflnhjpaaGreatLeast
namespace Sk
open Go Go.Proofs Go.RowKit
set_option maxHeartbeats 1500000
set_option maxRecDepth 100000
set_option linter.unusedVariables false
set_option linter.unusedSimpArgs false
theorem impl_clone_int (v : Value) (xs : List Int) (w : World) (h : Rs w v xs) (hn : xs.length ≤ 100000000) :
    Calls Tryz.prog 113 #[v] w fun e w' => ∃ v', e = .returned v' ∧ Os w.heap.size w' v' xs ∧ Ext w w' := by
  obtain ⟨F, hF⟩ := h
  refine (impl_clone_Int v xs w F hF hn).mono ?_
  rintro e w' ⟨v', F', rfl, ho, _, _, he⟩
  exact ⟨v', rfl, ho.flat, he⟩
/-- A message is sent. -/
def M.send (x : Hold) (k s m : Int) : Hold × Int :=
  if k = 1 then (⟨[m]⟩, 0) else if (x.Lst.length : Int) < s then (⟨x.Lst ++ [m]⟩, 0) else (x, M.bit (k == 3))
/-- A message is taken. -/
def M.take (x : Hold) (k : Int) : Hold × Int :=
  match x.Lst with
  | [] => (x, -1)
  | m :: rest => if k = 1 then (x, m) else (⟨rest⟩, m)
theorem M.send1 {x : Hold} {k s m : Int} (h : k = 1) : M.send x k s m = (⟨[m]⟩, 0) := if_pos h
theorem M.send2 {x : Hold} {k s m : Int} (h : ¬ k = 1) (h2 : (x.Lst.length : Int) < s) : M.send x k s m = (⟨x.Lst ++ [m]⟩, 0) := by unfold M.send; rw [if_neg h, if_pos h2]
theorem M.send3 {x : Hold} {k s m : Int} (h : ¬ k = 1) (h2 : ¬ (x.Lst.length : Int) < s) : M.send x k s m = (x, M.bit (k == 3)) := by unfold M.send; rw [if_neg h, if_neg h2]
theorem M.take0 {x : Hold} {k : Int} (h : x.Lst = []) : M.take x k = (x, -1) := by unfold M.take; rw [h]
theorem M.take1 {x : Hold} {k m : Int} {r : List Int} (h : x.Lst = m :: r) (hk : k = 1) : M.take x k = (x, m) := by unfold M.take; rw [h]; exact if_pos hk
theorem M.take2 {x : Hold} {k m : Int} {r : List Int} (h : x.Lst = m :: r) (hk : ¬ k = 1) : M.take x k = (⟨r⟩, m) := by unfold M.take; rw [h]; exact if_neg hk
theorem Ov.hold {L : Nat} {w : World} {v : Value} {xs : List Int} (h : Os L w v xs) : Ov L w (.agg #[v]) (⟨xs⟩ : Hold) := by
  obtain ⟨F, h, ho⟩ := h; exact ⟨[v], F, rfl, ⟨v, rfl, h⟩, ho⟩
theorem Ov.hold0 (L : Nat) (w : World) : Ov L w (.agg #[.slice none 0 0]) (⟨[]⟩ : Hold) := Ov.hold ⟨[], ⟨none, 0, rfl, Nat.le_refl _, Nat.zero_le _, .inl ⟨rfl, rfl⟩⟩, Own.nil _ _⟩
theorem Os.lit1 (w : World) (x : Int) (hr : rng x) : Os w.heap.size (w.alloc (.cells #[.int .i64 x] 3)) (.slice (some ⟨w.heap.size, 0, none⟩) 1 1) [x] := by
  have h := Oa.lit (α := Int) 3 w [.int .i64 x] [x] (n := 1) rfl (by simp [GT.sz]) (by simp) (Row.lit1 (cs := [_]) ⟨rfl, hr, rfl⟩) (fun k hk => by cases hk)
  exact h.os (Own.nil _ _)
theorem bit_form (k : Int) : (if k = 3 then true else false) = (k == 3) := by by_cases h : k = 3 <;> simp [h]
theorem Os.setLow {α : Type} [GT α] {L : Nat} {w : World} {v : Value} {xs : List α} (h : Os L w v xs) {p : Addr} (hp : p.block < L) (u : Value) : Os L (w.setCell p u) v xs := by
  obtain ⟨F, h1, h2⟩ := h
  exact ⟨F, h1.set (fun hm => by have := (h2.2 _ hm).1; omega) u, h2.set p u⟩
theorem cell_setB {w : World} {b o k j : Nat} {u : Value} (h : b ≠ k) : (w.setCell ⟨k, j, none⟩ u).cell? ⟨b, o, none⟩ = w.cell? ⟨b, o, none⟩ := World.cell?_of_block (heap_set_ne h)
end Sk

