/- Contracts of functions of the given program, and lemmas for them: each theorem states the condition under which it holds. -/
import Derived.Test.YtpegmdigobmjeaaChecked
import Derived.Test.YtpegmdigobmjeaaRefc
import Derived.Test.YtpegmdigobmjeaaLeast
namespace Sk
open Go Go.Proofs Go.RowKit
set_option maxHeartbeats 400000
set_option maxRecDepth 100000
set_option linter.unusedVariables false
noncomputable def M.leastP (s : Setup) : List (List Bool) := if M.setv s then M.least s.Channels s.Parts.length else []
theorem M.leastP_t {s : Setup} (h : M.setv s = true) : M.leastP s = M.least s.Channels s.Parts.length := if_pos h
theorem M.leastP_f {s : Setup} (h : M.setv s = false) : M.leastP s = [] := if_neg (by rw [h]; decide)
theorem M.setv_csv {s : Setup} (h : M.setv s = true) : M.csv s.Channels s.Parts.length = true := by
  simp only [M.setv, Bool.and_eq_true] at h; exact h.2.1
theorem M.least_len (cs : List Channel) (n : Nat) : (M.least cs n).length = n := by simp [M.least]
theorem range_map_take {α : Type} (f : Nat → α) {n k : Nat} (h : k < n) : ((List.range n).map f).take (k + 1) = ((List.range n).map f).take k ++ [f k] := by
  rw [take_snoc (x := f k) (by simp [h])]
theorem Ov.hi {α : Type} [GT α] {n : Nat} {w w' : World} {v : Value} {x : α} (h : Ov n w v x) (hi : Hi n w w') : Ov n w' v x := by
  obtain ⟨cs, F, rfl, h1, h2⟩ := h
  refine ⟨cs, F, rfl, GT.keep h1 fun k hk => hi.2 k (h2.2 k hk).1, h2.1, fun k hk => ⟨(h2.2 k hk).1, ?_⟩⟩
  obtain ⟨hk1, cs', T, h3⟩ := h2.2 k hk
  exact ⟨cs', T, by unfold Bk at *; rw [hi.2 k hk1]; exact h3⟩
end Sk

