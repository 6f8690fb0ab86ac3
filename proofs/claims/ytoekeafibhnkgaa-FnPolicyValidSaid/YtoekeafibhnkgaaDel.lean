/- Contracts of functions of the given program, and lemmas for them: each theorem states the condition under which it holds. -/
import Derived.Test.YtoekeafibhnkgaaChecked
import Derived.Lib.SliceRun
import Derived.Deep.CutBlock
import Derived.Deep.CutRange
import Derived.Test.YtoekeafibhnkgaaCopy
import Derived.Test.YtoekeafibhnkgaaRefc
import Derived.Test.YtoekeafibhnkgaaPol
import Derived.Test.YtoekeafibhnkgaaBuild
import Derived.Test.YtoekeafibhnkgaaHelp
import Derived.Test.YtoekeafibhnkgaaTypes
namespace Sk
open Go Go.Proofs Go.RowKit
set_option maxHeartbeats 4000000
set_option maxRecDepth 100000
set_option linter.unusedVariables false
set_option linter.unusedSimpArgs false
theorem chg_setCells (b : Nat) : ∀ (vs : List Value) (o : Nat) (w : World), Chg b o vs.length [] w (w.setCells b o vs)
  | [], o, w => Chg.refl _ _ _ _ _
  | v :: vs, o, w => by
    have h1 : Chg b o (vs.length + 1) [] w (w.setCell ⟨b, o, none⟩ v) := (Chg.refl _ _ _ _ _).set ⟨Nat.le_refl _, by omega⟩ _
    have h2 := chg_setCells b vs (o + 1) (w.setCell ⟨b, o, none⟩ v)
    exact h1.trF (h2.wide (by omega) (by omega) (fun _ h => h)) (fun _ h => by cases h)
theorem run_clear {α : Type} [GT α] {P : Program} (w : World) (t e : TypeId) (ht : P.underlying t = some (.slice e)) (hel : El P e α) (b o n c : Nat)
    (hc : ∀ j, j < n * GT.sz α → ∃ u, w.cell? ⟨b, o + j, none⟩ = some u) (hf : ∀ j, w.frozen? ⟨b, j, none⟩ = false) :
    ∃ w', (∀ ty, (Builtin.clear_ #[t] ty #[.slice (some ⟨b, o, none⟩) n c]).run P w = .ok (.tuple #[]) w') ∧ Chg b o (n * GT.sz α) [] w w' := by
  by_cases hn : n = 0
  · subst hn
    exact ⟨w, fun ty => by simp [Builtin.clear_, run_underlying ht], by rw [Nat.zero_mul]; exact Chg.refl _ _ _ _ _⟩
  · obtain ⟨i, z, bytes, hi, hz, hsz, hby, hzc, hb⟩ := hel
    have hzl : z.cells.size = GT.sz α := by rw [← GT.len (GT.zero (α := α) w), ← hzc]; simp
    have hlen : (Builtin.zeroCells z.cells n).toList.length = n * GT.sz α := by simp [Builtin.zeroCells, hzl]
    have h1 : ∀ v ∈ (Builtin.zeroCells z.cells n).toList, v.oneCell' = true := by
      intro v hv
      simp only [Builtin.zeroCells, Array.toList_map, List.mem_map, Array.mem_toList_iff, Array.mem_range] at hv
      obtain ⟨k, hk, rfl⟩ := hv
      have hp : 0 < z.cells.size := by rw [hzl]; exact GT.pos
      have hm := Nat.mod_lt k hp
      rw [getElem!_pos z.cells _ hm]
      exact GT.one (GT.zero (α := α) w) _ (by rw [← hzc]; simp)
    have hst := run_storeCells_cells (P := P) b o (Builtin.zeroCells z.cells n).toList 0 w (fun j hj => by rw [hlen] at hj; obtain ⟨u, hu⟩ := hc j hj; simp [hu]) (fun j hj => hf _) h1
    simp only [Nat.add_zero] at hst
    obtain ⟨m, rfl⟩ : ∃ m, n = m + 1 := ⟨n - 1, by omega⟩
    have hv : (zeroValue e).run P w = .ok z w := by simp [zeroValue, typeInfo, hi, hz]
    refine ⟨_, fun ty => by simp [Builtin.clear_, run_underlying ht, hv, hst]; rfl, ?_⟩
    have := chg_setCells b (Builtin.zeroCells z.cells (m + 1)).toList o w
    rwa [hlen] at this
theorem Chg.gb {b o n : Nat} {a c : World} (h : Chg b o n [] a c) : a.grownBy c (some b) := ⟨h.1.os, h.1.tape, h.1.output, h.sz, fun k hk hne => h.keep hk (fun e => hne (by rw [e])) (by simp)⟩
end Sk

namespace Sk
open Go Go.Proofs Go.RowKit
set_option maxHeartbeats 4000000
set_option maxRecDepth 100000
set_option linter.unusedVariables false
set_option linter.unusedSimpArgs false
theorem Rs.tailI {W : World} {b o n c : Nat} {x : Int} {xs : List Int} (h : Rs W (.slice (some ⟨b, o, none⟩) n c) (x :: xs)) : Rs W (.slice (some ⟨b, o + 1, none⟩) (n - 1) (c - 1)) xs := by
  obtain ⟨F, a, c', he, hl, hc, ⟨h1, _⟩ | ⟨_, b', o', F', h1, rfl, hr⟩⟩ := h
  · cases h1
  · cases he; cases h1
    obtain ⟨cs, F1, F2, _, _, rfl, hr⟩ := hr
    simp only [List.length_cons] at hl
    by_cases hx : xs = []
    · subst hx; exact ⟨[], some ⟨b, o + 1, none⟩, c - 1, by simp, by simp, by unfold maxLen at *; omega, .inl ⟨rfl, rfl⟩⟩
    · exact ⟨b :: F2, some ⟨b, o + 1, none⟩, c - 1, by simp, by omega, by unfold maxLen at *; omega, .inr ⟨hx, b, o + 1, F2, rfl, rfl, by simpa [GT.sz] using hr⟩⟩
def M.hd : List Int → Int
  | [] => 0
  | x :: _ => x
theorem Rs.nilI {W : World} {a : Option Addr} {c : Nat} (hc : c ≤ 9223372036854775807) : Rs (α := Int) W (.slice a 0 c) [] := ⟨[], a, c, rfl, Nat.zero_le _, hc, .inl ⟨rfl, rfl⟩⟩
theorem Mo.bk {F : List Nat} {a b : World} {p : Nat} {cs : List Value} {T : TypeId} (h : Mo F a b) (k : Bk a p cs T) (hp : p ∉ F) : Bk b p cs T := (Mx.ofMo h).bk k hp
theorem Mo.cell {F : List Nat} {a b : World} (h : Mo F a b) {p o : Nat} (hp : p ∉ F) : b.cell? ⟨p, o, none⟩ = a.cell? ⟨p, o, none⟩ := World.cell?_of_block (h.2.2.1 p hp)
theorem Oo.mo {α : Type} [GT α] {e : TypeId} {L : Nat} {w w' : World} {v : Value} {xs : List α} {F : List Nat} (h : Oo e L w v xs) (k : Mo F w w') (hF : ∀ x ∈ F, x < L) : Oo e L w' v xs := by
  obtain ⟨G, h1, h2⟩ := h
  exact ⟨G, h1.keep (fun x hx => k.2.2.1 x (fun hm => by have := h1.own x hx; have := hF x hm; omega)) (fun x hx => k.2.2.1 x (fun hm => by have := (h2.2 x hx).1; have := hF x hm; omega)), k.own h2⟩
theorem Mo.drewN {F : List Nat} {a b : World} (h : Mo F a b) (n : Nat) : Mo F a (b.drewN n) := by
  obtain ⟨h1, h2, h3, h4⟩ := h
  exact ⟨h1, ⟨h2.os, h2.tape, h2.output, Nat.le_refl _, fun b hb => by cases hb⟩, h3, fun k hk => (h4 k hk).ext ((Ext.refl _).drewN n)⟩
theorem Mo.lt {F : List Nat} {a b : World} (h : Mo F a b) : b.heap.size = a.heap.size := h.1
def M.many (xs : List Int) (m : Int) : Int := if M.inn (M.hd xs) 0 m then M.hd xs else 0
def M.manyB (xs : List Int) (bad : Bool) (m : Int) : Bool := (bad || xs.isEmpty) || !M.inn (M.hd xs) 0 m
end Sk

