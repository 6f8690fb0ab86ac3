/- Contracts of functions of the given program, and lemmas for them: each theorem states the condition under which it holds. -/
import Derived.Test.YtpegmdigobmjeaaChecked
import Derived.Test.YtpegmdigobmjeaaApp
import Derived.Test.YtpegmdigobmjeaaChan
namespace Sk
open Go Go.Proofs Go.RowKit
set_option maxHeartbeats 400000
set_option maxRecDepth 100000
set_option linter.unusedVariables false
/-- Numbers that lie one behind the other. -/
def CI (w : World) (b : Nat) : Nat → List Int → Prop
  | _, [] => True
  | o, n :: ns => w.cell? ⟨b, o, none⟩ = some (.int .i64 n) ∧ rng n ∧ CI w b (o + 1) ns
theorem CI.row {w : World} {b : Nat} {ns : List Int} : ∀ {o : Nat}, CI w b o ns → Row w b o ns [] := by
  induction ns with
  | nil => intro o _; rfl
  | cons n ns ih =>
    intro o h
    exact ⟨[.int .i64 n], [], [], ⟨rfl, h.2.1, rfl⟩, fun j u hj => by
      cases j with
      | zero => simp at hj; subst hj; exact h.1
      | succ j => simp at hj, rfl, ih h.2.2⟩
theorem rng_of {n : Int} (h1 : -9223372036854775808 ≤ n) (h2 : n ≤ 9223372036854775807) : rng n := ⟨h1, h2⟩
theorem box3 {w w1 : World} {c0 c1 c2 : Value} {T : TypeId} (he : Ext (w.alloc (.cells #[c0, c1, c2] T)) w1) :
    w.heap.size < w1.heap.size ∧ w1.cell? ⟨w.heap.size, 0, none⟩ = some c0 ∧ w1.cell? ⟨w.heap.size, 1, none⟩ = some c1 ∧ w1.cell? ⟨w.heap.size, 2, none⟩ = some c2 := by
  have hs : w.heap.size < (w.alloc (.cells #[c0, c1, c2] T)).heap.size := by simp
  refine ⟨Nat.lt_of_lt_of_le hs he.sz, ?_, ?_, ?_⟩
  all_goals rw [(bcell he).1 _ _ hs]; simp
theorem M.bit_rng (b : Bool) : rng (M.bit b) := by cases b <;> exact ⟨by decide, by decide⟩
theorem M.setv_parts {s : Setup} (h : M.setv s = true) : s.Parts.length ≤ 5 := by
  simp only [M.setv, M.psv, Bool.and_eq_true, decide_eq_true_eq] at h; exact h.1.1
end Sk

