/- Contracts of functions of the given program, and lemmas for them: each theorem states the condition under which it holds. -/
import Derived.Test.YtpegmdigobmjeaaChecked
import Derived.Test.YtpegmdigobmjeaaLeastS
import Derived.Test.YtpegmdigobmjeaaPol
namespace Sk
open Go Go.Proofs Go.RowKit
set_option maxHeartbeats 800000
set_option maxRecDepth 100000
set_option linter.unusedVariables false
def M.at2 (p : List (List Bool)) (a b : Nat) : Bool := (p.getD a []).getD b false
def M.gcell (l q : List (List Bool)) (a b : Nat) : List Int := if M.at2 l a b && !M.at2 q a b then [10 * (a : Int) + b] else []
def M.grow (l q : List (List Bool)) (n a : Nat) : List Int := (List.range n).flatMap (M.gcell l q a)
def M.gaps (l q : List (List Bool)) (n : Nat) : List Int := (List.range n).flatMap (M.grow l q n)
noncomputable def M.policyGaps (s : Setup) (q : List (List Bool)) : List Int := if M.setv s && M.pv q s.Parts.length then M.gaps (M.least s.Channels s.Parts.length) q s.Parts.length else []
theorem M.policyGaps_t {s : Setup} {q : List (List Bool)} (h : M.setv s = true) (k : M.pv q s.Parts.length = true) : M.policyGaps s q = M.gaps (M.least s.Channels s.Parts.length) q s.Parts.length := if_pos (by rw [h, k]; rfl)
theorem M.policyGaps_f {s : Setup} {q : List (List Bool)} (h : M.setv s = false ∨ M.pv q s.Parts.length = false) : M.policyGaps s q = [] := if_neg (by rcases h with h | h <;> rw [h] <;> simp)
theorem range_fm {β : Type} (f : Nat → List β) {n k : Nat} (h : k < n) : ((List.range n).take (k + 1)).flatMap f = ((List.range n).take k).flatMap f ++ f k :=
  flatMap_take f (x := k) (by simp [h])
theorem fm_len {β : Type} (f : Nat → List β) (B n k : Nat) (h : ∀ i, (f i).length ≤ B) : (((List.range n).take k).flatMap f).length ≤ n * B := by
  have := flat_len f (List.range n) k B (fun x _ => h x); simpa using this
theorem M.gcell_len (l q : List (List Bool)) (a b : Nat) : (M.gcell l q a b).length ≤ 1 := by unfold M.gcell; split <;> simp
theorem M.grow_len (l q : List (List Bool)) (n a : Nat) : (M.grow l q n a).length ≤ n := by
  have := fm_len (M.gcell l q a) 1 n n (M.gcell_len l q a)
  rw [List.take_of_length_le (by simp)] at this
  simpa [M.grow] using this
theorem M.gcell_t {l q : List (List Bool)} {a b : Nat} (h : M.at2 l a b = true) (k : M.at2 q a b = false) : M.gcell l q a b = [10 * (a : Int) + b] := if_pos (by rw [h, k]; rfl)
theorem M.gcell_f {l q : List (List Bool)} {a b : Nat} (h : M.at2 l a b = false ∨ M.at2 q a b = true) : M.gcell l q a b = [] := if_neg (by rcases h with h | h <;> rw [h] <;> simp)
theorem M.at2_of {p : List (List Bool)} {a b : Nat} {r : List Bool} {x : Bool} (h : p[a]? = some r) (k : r[b]? = some x) : M.at2 p a b = x := by
  unfold M.at2; rw [List.getD_eq_getElem?_getD (l := p), h, Option.getD_some, List.getD_eq_getElem?_getD, k]; rfl
theorem M.least_row {cs : List Channel} {n k : Nat} {r : List Bool} (h : (M.least cs n)[k]? = some r) : r.length = n := by
  have hm := List.mem_of_getElem? h
  obtain ⟨i, _, rfl⟩ := List.mem_map.1 hm
  simp
theorem M.pv_row {q : List (List Bool)} {n : Nat} (h : M.pv q n = true) {k : Nat} {r : List Bool} (hk : q[k]? = some r) : r.length = n := by
  have := (Bo.iff.1 h).2.2.2 k r hk; omega
theorem M.pv_len {q : List (List Bool)} {n : Nat} (h : M.pv q n = true) : q.length = n := by have := (Bo.iff.1 h).1; omega
theorem rng_small {n : Int} (h : 0 ≤ n) (k : n ≤ 100000) : rng n := ⟨by omega, by omega⟩
end Sk

