/- Contracts of functions of the given program, and lemmas for them: each theorem states the condition under which it holds. -/
import Derived.Test.YtoekeafibhnkgaaChecked
import Derived.Test.YtoekeafibhnkgaaTop
import Derived.Test.YtoekeafibhnkgaaHelp
namespace Sk
open Go Go.Proofs Go.RowKit
set_option maxHeartbeats 400000
set_option maxRecDepth 100000
set_option linter.unusedVariables false
set_option linter.unusedSimpArgs false
/-- k steps of f. -/
def M.upto {β : Type} (f : β → Nat → β) (b : β) : Nat → β
  | 0 => b
  | k + 1 => f (M.upto f b k) k
theorem M.upto_inv {β : Type} {f : β → Nat → β} {b : β} (P : β → Prop) (h0 : P b) (hs : ∀ x k, P x → P (f x k)) (k : Nat) : P (M.upto f b k) := by
  induction k with
  | zero => exact h0
  | succ k ih => exact hs _ _ ih
def M.fstep (cs : List Channel) (a : Nat) (out : List Bool) (b : Nat) : List Bool := out.set a (out.getD a false || (out.getD b false && M.dir cs a b))
def M.frow (cs : List Channel) (n : Nat) (out : List Bool) (a : Nat) : List Bool := M.upto (M.fstep cs a) out n
def M.fround (cs : List Channel) (n : Nat) (out : List Bool) (_ : Nat) : List Bool := M.upto (M.frow cs n) out n
/-- Which partitions may have influence on k. -/
def M.flows (cs : List Channel) (n k : Nat) : List Bool := M.upto (M.fround cs n) ((List.replicate n false).set k true) n
theorem M.fstep_t {cs : List Channel} {a b : Nat} {out : List Bool} (h : out.getD a false = true) : M.fstep cs a out b = out.set a true := by unfold M.fstep; rw [h]; rfl
theorem M.fstep_f {cs : List Channel} {a b : Nat} {out : List Bool} (h : out.getD a false = false) (k : out.getD b false = false) : M.fstep cs a out b = out.set a false := by unfold M.fstep; rw [h, k]; rfl
theorem M.fstep_d {cs : List Channel} {a b : Nat} {out : List Bool} (h : out.getD a false = false) (k : out.getD b false = true) : M.fstep cs a out b = out.set a (M.dir cs a b) := by unfold M.fstep; rw [h, k]; rfl
theorem M.fstep_len {cs : List Channel} {a : Nat} {out : List Bool} {b : Nat} : (M.fstep cs a out b).length = out.length := List.length_set ..
theorem M.frow_len {cs : List Channel} {n a : Nat} {out : List Bool} {k : Nat} : (M.upto (M.fstep cs a) out k).length = out.length :=
  M.upto_inv (fun x : List Bool => x.length = out.length) rfl (fun x k h => M.fstep_len.trans h) k
theorem M.fround_len {cs : List Channel} {n : Nat} {out : List Bool} {k : Nat} : (M.upto (M.frow cs n) out k).length = out.length :=
  M.upto_inv (fun x : List Bool => x.length = out.length) rfl (fun x k h => (M.frow_len (n := n)).trans h) k
theorem M.flows_len' {cs : List Channel} {n : Nat} {out : List Bool} {k : Nat} : (M.upto (M.fround cs n) out k).length = out.length :=
  M.upto_inv (fun x : List Bool => x.length = out.length) rfl (fun x k h => M.fround_len.trans h) k
theorem M.flows_len (cs : List Channel) (n k : Nat) : (M.flows cs n k).length = n := by
  unfold M.flows; rw [M.flows_len']; simp
theorem Os.mono {α : Type} [GT α] {L L' : Nat} {w : World} {v : Value} {xs : List α} (h : Os L w v xs) (hl : L' ≤ L) : Os L' w v xs := by
  obtain ⟨F, h, o⟩ := h; exact ⟨F, h, o.mono hl⟩
theorem Os.bool {L : Nat} {w : World} {b o n c : Nat} {xs : List Bool} (h : Os L w (.slice (some ⟨b, o, none⟩) n c) xs) (k : Nat) (hk : k < xs.length) :
    w.cell? ⟨b, o + k, none⟩ = some (.bool (xs.getD k false)) ∧ w.frozen? ⟨b, o + k, none⟩ = false ∧ b < w.heap.size := by
  obtain ⟨b', o', x, hb, hlt, hx, hc⟩ := h.rs.atBool k hk
  cases hb
  obtain ⟨b2, o2, cs2, F2, x0, hb2, _, _, _, _, hf⟩ := h.at k hk
  cases hb2
  rw [List.getD_eq_getElem?_getD, hx.out]
  exact ⟨hc, hf _, hlt⟩
theorem Os.setB {L : Nat} {w : World} {b n c : Nat} {xs : List Bool} (h : Os L w (.slice (some ⟨b, 0, none⟩) n c) xs) (hL : L ≤ w.heap.size) (k : Nat) (hk : k < xs.length) (y : Bool) :
    Os L (w.setCell ⟨b, k, none⟩ (.bool y)) (.slice (some ⟨b, 0, none⟩) n c) (xs.set k y) := by
  have := h.put (i := k) (Ext.refl _) hk hL (⟨[], ⟨rfl, rfl⟩, Own.nil _ _⟩ : Ow _ _ [.bool y] y)
  simpa only [GT.sz, putCells, Nat.mul_one, Nat.zero_add] using this
end Sk

