/- Contracts of functions of the given program, and lemmas for them: each theorem states the condition under which it holds. -/
import Derived.Test.YtoekeafibhnkgaaChecked
import Derived.Deep.CutBlock
import Derived.Deep.CutRange
import Derived.Test.YtoekeafibhnkgaaDraw
namespace Sk
open Go Go.Proofs Go.RowKit
set_option maxHeartbeats 1600000
set_option maxRecDepth 100000
set_option linter.unusedVariables false
set_option linter.unusedSimpArgs false
theorem Os.rsb {α : Type} [GT α] {L : Nat} {w : World} {v : Value} {xs : List α} (h : Os L w v xs) : Rsb L w v xs := by
  obtain ⟨F, h1, h2⟩ := h
  exact ⟨F, h1, fun k hk => (h2.2 k hk).1⟩
theorem Rsb.form {α : Type} [GT α] {L : Nat} {w : World} {v : Value} {xs : List α} (h : Rsb L w v xs) : ∃ a c, v = .slice a xs.length c ∧ xs.length ≤ 9223372036854775807 := h.rs.form
theorem rng_sm {n : Int} (h1 : -1000000 ≤ n) (h2 : n ≤ 1000000) : rng n := ⟨by omega, by omega⟩
theorem PickR.bd {n k : Int} (h : PickR n k) (hn : n ≤ 1000) : 0 ≤ k ∧ k ≤ 1000 := by
  obtain ⟨h1, h2, h3⟩ := h
  by_cases hx : 1 ≤ n
  · have := h2 hx; omega
  · have := h3 (by omega); omega
theorem PickR.lt {n k : Int} (h : PickR n k) (hn : 1 ≤ n) : 0 ≤ k ∧ k < n := ⟨h.1, h.2.1 hn⟩
/-- A number out of a literal, behind a call that turned one block. -/
theorem lit_pick {u w' : World} {b : Nat} {zs : List Int} {T : TypeId} {k n : Int} (hm : Mo [b] (u.alloc (.cells (zs.map fun z => Value.int .i64 z).toArray T (0, 0))) w') (hb : b < u.heap.size) (hk : PickR n k) (hn : n = zs.length) (hz : 0 < zs.length) :
    ∃ z, w'.cell? ⟨u.heap.size, k.toNat, none⟩ = some (.int .i64 z) ∧ z ∈ zs := by
  have h1 := hk.lt (by omega)
  have hk2 : k.toNat < zs.length := by omega
  refine ⟨zs[k.toNat], ?_, List.getElem_mem _⟩
  rw [hm.cell (by simp; omega)]
  refine (Bk.new u (zs.map fun z => Value.int .i64 z) T).cell ?_
  simp [hk2]
end Sk

