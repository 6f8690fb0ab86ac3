/- Contracts of functions of the given program, and lemmas for them: each theorem states the condition under which it holds. -/
import Derived.Test.YtiepblmmldgmgaaChecked
import Derived.Test.YtiepblmmldgmgaaNums
import Derived.Test.YtiepblmmldgmgaaHelp
namespace Sk
open Go Go.Proofs Go.RowKit
set_option maxHeartbeats 400000
set_option maxRecDepth 100000
set_option linter.unusedVariables false
set_option linter.unusedSimpArgs false
def M.mix1 (n x : Int) : Int := (1000003 * n + x % 1048573 + 1) % 1048573
def M.mix (key : Int) (xs : List Int) : Int := xs.foldl M.mix1 key
theorem M.mix_snoc (key : Int) (xs : List Int) (x : Int) : M.mix key (xs ++ [x]) = M.mix1 (M.mix key xs) x := by simp [M.mix]
theorem M.mix1_rng (n x : Int) : 0 ≤ M.mix1 n x ∧ M.mix1 n x ≤ 1048572 := by unfold M.mix1; omega
theorem tmod_neg (x : Int) (h : x.tmod 1048573 < 0) : x.tmod 1048573 + 1048573 = x % 1048573 := by
  rw [Int.tmod_eq_emod] at *; split at h <;> split <;> simp_all <;> omega
theorem tmod_pos (x : Int) (h : ¬ x.tmod 1048573 < 0) : x.tmod 1048573 = x % 1048573 := by
  rw [Int.tmod_eq_emod] at *; split at h <;> split <;> simp_all <;> omega
theorem tmod_bd (x : Int) : -1048573 < x.tmod 1048573 ∧ x.tmod 1048573 < 1048573 := by
  rw [Int.tmod_eq_emod]; split <;> simp_all <;> omega
theorem tmod_add (x : Int) : (x.tmod 1048573 + 1048573) % 1048573 = x % 1048573 := by
  rw [Int.tmod_eq_emod]; split <;> simp_all
end Sk

namespace Sk
open Go Go.Proofs Go.RowKit
set_option maxHeartbeats 400000
set_option maxRecDepth 100000
set_option linter.unusedVariables false
set_option linter.unusedSimpArgs false
/-- A channel that lets something flow from f to t. -/
def M.dc (f t : Int) (c : Channel) : Bool := (c.From == f && c.To == t) || (c.Kind == 3 && c.From == t && c.To == f)
def M.dir (cs : List Channel) (f t : Int) : Bool := (f == t) || cs.any (M.dc f t)
end Sk

namespace Sk
open Go Go.Proofs Go.RowKit
set_option maxHeartbeats 400000
set_option maxRecDepth 100000
set_option linter.unusedVariables false
set_option linter.unusedSimpArgs false
/-- k steps of f. -/
def M.upto {β : Type} (f : β → Nat → β) (b : β) : Nat → β
  | 0 => b
  | k + 1 => f (M.upto f b k) k
theorem M.upto_inv {β : Type} {f : β → Nat → β} {b : β} (P : β → Prop) (h0 : P b) (hs : ∀ x k, P x → P (f x k)) (k : Nat) : P (M.upto f b k) := by
  induction k with
  | zero => exact h0
  | succ k ih => exact hs _ _ ih
def M.fstep (cs : List Channel) (a : Nat) (out : List Bool) (b : Nat) : List Bool := out.set a (out.getD a false || (out.getD b false && M.dir cs a b))
def M.frow (cs : List Channel) (n : Nat) (out : List Bool) (a : Nat) : List Bool := M.upto (M.fstep cs a) out n
def M.fround (cs : List Channel) (n : Nat) (out : List Bool) (_ : Nat) : List Bool := M.upto (M.frow cs n) out n
/-- Which partitions may have influence on k. -/
def M.flows (cs : List Channel) (n k : Nat) : List Bool := M.upto (M.fround cs n) ((List.replicate n false).set k true) n
theorem M.fstep_t {cs : List Channel} {a b : Nat} {out : List Bool} (h : out.getD a false = true) : M.fstep cs a out b = out.set a true := by unfold M.fstep; rw [h]; rfl
theorem M.fstep_f {cs : List Channel} {a b : Nat} {out : List Bool} (h : out.getD a false = false) (k : out.getD b false = false) : M.fstep cs a out b = out.set a false := by unfold M.fstep; rw [h, k]; rfl
theorem M.fstep_d {cs : List Channel} {a b : Nat} {out : List Bool} (h : out.getD a false = false) (k : out.getD b false = true) : M.fstep cs a out b = out.set a (M.dir cs a b) := by unfold M.fstep; rw [h, k]; rfl
theorem M.fstep_len {cs : List Channel} {a : Nat} {out : List Bool} {b : Nat} : (M.fstep cs a out b).length = out.length := List.length_set ..
theorem M.frow_len {cs : List Channel} {n a : Nat} {out : List Bool} {k : Nat} : (M.upto (M.fstep cs a) out k).length = out.length :=
  M.upto_inv (fun x : List Bool => x.length = out.length) rfl (fun x k h => M.fstep_len.trans h) k
theorem M.fround_len {cs : List Channel} {n : Nat} {out : List Bool} {k : Nat} : (M.upto (M.frow cs n) out k).length = out.length :=
  M.upto_inv (fun x : List Bool => x.length = out.length) rfl (fun x k h => (M.frow_len (n := n)).trans h) k
theorem M.flows_len' {cs : List Channel} {n : Nat} {out : List Bool} {k : Nat} : (M.upto (M.fround cs n) out k).length = out.length :=
  M.upto_inv (fun x : List Bool => x.length = out.length) rfl (fun x k h => M.fround_len.trans h) k
theorem M.flows_len (cs : List Channel) (n k : Nat) : (M.flows cs n k).length = n := by
  unfold M.flows; rw [M.flows_len']; simp
theorem Os.mono {α : Type} [GT α] {L L' : Nat} {w : World} {v : Value} {xs : List α} (h : Os L w v xs) (hl : L' ≤ L) : Os L' w v xs := by
  obtain ⟨F, h, o⟩ := h; exact ⟨F, h, o.mono hl⟩
theorem Os.bool {L : Nat} {w : World} {b o n c : Nat} {xs : List Bool} (h : Os L w (.slice (some ⟨b, o, none⟩) n c) xs) (k : Nat) (hk : k < xs.length) :
    w.cell? ⟨b, o + k, none⟩ = some (.bool (xs.getD k false)) ∧ w.frozen? ⟨b, o + k, none⟩ = false ∧ b < w.heap.size := by
  obtain ⟨b', o', x, hb, hlt, hx, hc⟩ := h.rs.atBool k hk
  cases hb
  obtain ⟨b2, o2, cs2, F2, x0, hb2, _, _, _, _, hf⟩ := h.at k hk
  cases hb2
  rw [List.getD_eq_getElem?_getD, hx.out]
  exact ⟨hc, hf _, hlt⟩
theorem Os.setB {L : Nat} {w : World} {b n c : Nat} {xs : List Bool} (h : Os L w (.slice (some ⟨b, 0, none⟩) n c) xs) (hL : L ≤ w.heap.size) (k : Nat) (hk : k < xs.length) (y : Bool) :
    Os L (w.setCell ⟨b, k, none⟩ (.bool y)) (.slice (some ⟨b, 0, none⟩) n c) (xs.set k y) := by
  have := h.put (i := k) (Ext.refl _) hk hL (⟨[], ⟨rfl, rfl⟩, Own.nil _ _⟩ : Ow _ _ [.bool y] y)
  simpa only [GT.sz, putCells, Nat.mul_one, Nat.zero_add] using this
end Sk

