/- Contracts of functions of the given program, and lemmas for them: each theorem states the condition under which it holds. -/
import Derived.Test.YtmkibejcdldjeaaChecked
import Derived.Deep.CutBlock
import Derived.Deep.CutRange
import Derived.Test.YtmkibejcdldjeaaDrawS
import Derived.Test.YtmkibejcdldjeaaBuild
import Derived.Test.YtmkibejcdldjeaaDrawPol
import Derived.Test.YtmkibejcdldjeaaDrawSt
import Derived.Test.YtmkibejcdldjeaaClash
import Derived.Test.YtmkibejcdldjeaaChan
namespace Sk
open Go Go.Proofs Go.RowKit
set_option maxHeartbeats 1600000
set_option maxRecDepth 100000
set_option linter.unusedVariables false
set_option linter.unusedSimpArgs false
theorem Rsb.take {α : Type} [GT α] {L : Nat} {w : World} {a : Option Addr} {n c k : Nat} {xs : List α} (h : Rsb L w (.slice a n c) xs) (hk : k ≤ xs.length) : Rsb L w (.slice a k c) (xs.take k) := by
  obtain ⟨F, ⟨a', c', he, hl, hc, hr⟩, hL⟩ := h
  cases he
  have hlen : (xs.take k).length = k := by rw [List.length_take]; omega
  rcases hr with ⟨rfl, rfl⟩ | ⟨_, b, o, F', rfl, rfl, hr⟩
  · exact ⟨[], ⟨_, c, by rw [hlen], by rw [hlen]; exact Nat.le_trans hk hl, hc, .inl ⟨by simp, rfl⟩⟩, hL⟩
  · rw [← List.take_append_drop k xs] at hr
    obtain ⟨F1, F2, rfl, h1, _⟩ := hr.split
    by_cases hx : xs.take k = []
    · exact ⟨[], ⟨_, c, by rw [hlen], by rw [hlen]; exact Nat.le_trans hk hl, hc, .inl ⟨hx, rfl⟩⟩, fun k hk => by cases hk⟩
    · exact ⟨b :: F1, ⟨_, c, by rw [hlen], by rw [hlen]; exact Nat.le_trans hk hl, hc, .inr ⟨hx, b, o, F1, rfl, rfl, h1⟩⟩, fun k hk => hL k (by
        rcases List.mem_cons.1 hk with rfl | hk
        · exact List.mem_cons_self ..
        · exact List.mem_cons_of_mem _ (List.mem_append_left _ hk))⟩
end Sk

namespace Sk
open Go Go.Proofs Go.RowKit
set_option maxHeartbeats 1600000
set_option maxRecDepth 100000
set_option linter.unusedVariables false
set_option linter.unusedSimpArgs false
theorem Rvb.openS {L : Nat} {w : World} {v : Value} {s : Setup} (h : Rvb L w v s) : ∃ a0 c0 a1 c1 a2 c2, v = .agg #[.slice a0 s.Parts.length c0, .slice a1 s.Channels.length c1, .slice a2 s.Slots.length c2] ∧ s.Parts.length ≤ 9223372036854775807 ∧ s.Channels.length ≤ 9223372036854775807 ∧ s.Slots.length ≤ 9223372036854775807 := by
  obtain ⟨cs, F, rfl, ⟨v0, v1, v2, F0, F1, F2, rfl, h0, h1, h2, rfl⟩, _⟩ := h
  obtain ⟨a0, c0, rfl, g0⟩ := (show Rs w v0 s.Parts from ⟨_, h0⟩).form
  obtain ⟨a1, c1, rfl, g1⟩ := (show Rs w v1 s.Channels from ⟨_, h1⟩).form
  obtain ⟨a2, c2, rfl, g2⟩ := (show Rs w v2 s.Slots from ⟨_, h2⟩).form
  exact ⟨_, _, _, _, _, _, rfl, g0, g1, g2⟩
theorem Rvb.ext {α : Type} [GT α] {L : Nat} {w w' : World} {v : Value} {x : α} (h : Rvb L w v x) (k : Ext w w') : Rvb L w' v x := by
  obtain ⟨cs, F, h1, h2, h3⟩ := h
  exact ⟨cs, F, h1, GT.ext h2 k, h3⟩
theorem Rvb.set {α : Type} [GT α] {L : Nat} {w : World} {v : Value} {x : α} (h : Rvb L w v x) {p : Addr} (hp : p.block < L) (u : Value) : Rvb L (w.setCell p u) v x := by
  obtain ⟨cs, F, h1, h2, h3⟩ := h
  exact ⟨cs, F, h1, GT.keep h2 (fun k hk => heap_set_ne (by have := h3 k hk; omega)), h3⟩
theorem Rvb.mw {α : Type} [GT α] {L : Nat} {w w' : World} {v : Value} {x : α} {F : List Nat} (h : Rvb L w v x) (k : Mw F w w') (hF : ∀ y ∈ F, y < L) : Rvb L w' v x := by
  obtain ⟨cs, G, h1, h2, h3⟩ := h
  exact ⟨cs, G, h1, k.enc h2 (fun y hy hf => by have := h3 y hy; have := hF y hf; omega), h3⟩
theorem Rvb.mono {α : Type} [GT α] {L L' : Nat} {w : World} {v : Value} {x : α} (h : Rvb L w v x) (k : L' ≤ L) : Rvb L' w v x := by
  obtain ⟨cs, F, h1, h2, h3⟩ := h
  exact ⟨cs, F, h1, h2, fun y hy => Nat.le_trans k (h3 y hy)⟩
end Sk

namespace Sk
open Go Go.Proofs Go.RowKit
set_option maxHeartbeats 1600000
set_option maxRecDepth 100000
set_option linter.unusedVariables false
set_option linter.unusedSimpArgs false
/-- No two of the first k partitions clash. -/
def M.Ap (ps : List Part) (k : Nat) : Prop := ∀ (i j : Nat) (x y : Part), i < j → j < k → ps[i]? = some x → ps[j]? = some y → M.clash x.Windows y.Windows = false
noncomputable def M.apart (ps : List Part) : Bool := Bo (M.Ap ps ps.length)
theorem M.Ap.zero (ps : List Part) : M.Ap ps 0 := fun i j x y _ h => absurd h (Nat.not_lt_zero _)
theorem M.Ap.next {ps : List Part} {k : Nat} {y : Part} (h : M.Ap ps k) (hy : ps[k]? = some y) (hc : ∀ (i : Nat) (x : Part), i < k → ps[i]? = some x → M.clash x.Windows y.Windows = false) : M.Ap ps (k + 1) := by
  intro i j x z hij hj hx hz
  by_cases hjk : j = k
  · subst hjk
    rw [hy] at hz; cases hz
    exact hc i x hij hx
  · exact h i j x z hij (by omega) hx hz
theorem M.apart_f {ps : List Part} {i j : Nat} {x y : Part} (hij : i < j) (hx : ps[i]? = some x) (hy : ps[j]? = some y) (h : M.clash x.Windows y.Windows = true) : M.apart ps = false :=
  Bo.f fun k => by rw [k i j x y hij (List.getElem?_eq_some_iff.1 hy).1 hx hy] at h; cases h
noncomputable def M.slotless (s : Setup) : Bool := Bo (∃ n : Nat, n < s.Parts.length ∧ ∀ x ∈ s.Slots, x.Who ≠ n)
def M.tightAt (xs : List Slot) (k : Nat) : Prop := ∃ x y : Slot, xs[k]? = some x ∧ xs[(k + 1) % xs.length]? = some y ∧ 0 ≤ x.Who ∧ 0 ≤ y.Who ∧ x.Who ≠ y.Who
noncomputable def M.tight (s : Setup) : Bool := Bo (∃ k, M.tightAt s.Slots k)
def M.samec (c d : Channel) : Bool := c.Kind == d.Kind && (c.From == d.From && c.To == d.To)
noncomputable def M.twice (s : Setup) : Bool := Bo (∃ (i j : Nat) (c d : Channel), i < j ∧ s.Channels[i]? = some c ∧ s.Channels[j]? = some d ∧ M.samec c d = true)
def M.flt (b : Bool) (n : Int) : List Int := if b then [n] else []
noncomputable def M.faults (s : Setup) : List Int :=
  if M.setv s then M.flt (!M.apart s.Parts) 1 ++ M.flt (M.slotless s) 2 ++ M.flt (M.tight s) 3 ++ M.flt (M.twice s) 4 else []
theorem M.faults_t {s : Setup} (h : M.setv s = true) : M.faults s = M.flt (!M.apart s.Parts) 1 ++ M.flt (M.slotless s) 2 ++ M.flt (M.tight s) 3 ++ M.flt (M.twice s) 4 := by unfold M.faults; rw [if_pos h]
theorem M.faults_f {s : Setup} (h : M.setv s = false) : M.faults s = [] := by unfold M.faults; rw [h]; rfl
theorem M.samec_comm (c d : Channel) : M.samec c d = M.samec d c := by
  unfold M.samec
  rw [Bool.beq_comm (a := c.Kind), Bool.beq_comm (a := c.From), Bool.beq_comm (a := c.To)]
end Sk

