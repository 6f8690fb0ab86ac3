/- Contracts of functions of the given program, and lemmas for them: each theorem states the condition under which it holds. -/
import Derived.Test.YtlejdkiihpeojaaGreatChecked
import Derived.Test.YtlejdkiihpeojaaGreatUARuns
namespace Sk
open Go Go.Proofs Go.RowKit
set_option maxHeartbeats 1000000
set_option linter.unusedVariables false
set_option linter.unusedSimpArgs false
/-- Whether a partition sends over a channel in a tick. -/
def M.sends (m : Machine) (n c : Int) : Bool := decide (M.who m.Plan.Slots m.Tick = n) && decide (M.over m = c)
/-- How often it does in some ticks. -/
def M.sentN (m : Machine) (n c : Int) : Nat → Nat
 | 0 => 0
 | k + 1 => if M.sends (M.run m k) n c = true then M.sentN m n c k + 1 else M.sentN m n c k
theorem M.sentN_le (m : Machine) (n c : Int) : ∀ k, M.sentN m n c k ≤ k := by
 intro k
 induction k with
 | zero => exact Nat.le_refl _
 | succ k ih => unfold M.sentN; split <;> omega
theorem M.sentN_t {m : Machine} {n c : Int} {k : Nat} (h : M.sends (M.run m k) n c = true) : M.sentN m n c (k + 1) = M.sentN m n c k + 1 := if_pos h
theorem M.sentN_f {m : Machine} {n c : Int} {k : Nat} (h : M.sends (M.run m k) n c = false) : M.sentN m n c (k + 1) = M.sentN m n c k := if_neg (by rw [h]; decide)
noncomputable def M.sentCount (m : Machine) (n c t : Int) : Int := if M.runs m t 400 = true ∧ M.inn n 0 ((m.Cores.length : Int) - 1) = true ∧ M.inn c 0 ((m.Holds.length : Int) - 1) = true then M.sentN m n c t.toNat else -1
theorem M.sentCount_f1 {m : Machine} {n c t : Int} (h : M.runs m t 400 = false) : M.sentCount m n c t = -1 := if_neg (fun k => by rw [h] at k; cases k.1)
theorem M.sentCount_f2 {m : Machine} {n c t : Int} (h : M.inn n 0 ((m.Cores.length : Int) - 1) = false) : M.sentCount m n c t = -1 := if_neg (fun k => by rw [h] at k; cases k.2.1)
theorem M.sentCount_f3 {m : Machine} {n c t : Int} (h : M.inn c 0 ((m.Holds.length : Int) - 1) = false) : M.sentCount m n c t = -1 := if_neg (fun k => by rw [h] at k; cases k.2.2)
theorem M.sentCount_t {m : Machine} {n c : Int} {t : Nat} (h : M.runs m t 400 = true) (h1 : M.inn n 0 ((m.Cores.length : Int) - 1) = true) (h2 : M.inn c 0 ((m.Holds.length : Int) - 1) = true) : M.sentCount m n c t = M.sentN m n c t := if_pos ⟨h, h1, h2⟩
theorem M.sends_iff {m : Machine} (h : M.MV m) {n c : Nat} {k0 : Core} {p : List Order} {o : Order} {ch : Channel} (hk : m.Cores[n]? = some k0) (hp : m.Programs[n]? = some p) (ho : p[k0.At.toNat]? = some o) (hc : m.Plan.Channels[c]? = some ch) :
  M.sends m n c = true ↔ M.who m.Plan.Slots m.Tick = n ∧ k0.Stopped = false ∧ o.Op = 5 ∧ o.A = c ∧ ch.From = n := by
 unfold M.sends
 simp only [Bool.and_eq_true, decide_eq_true_eq]
 by_cases hw : M.who m.Plan.Slots m.Tick = n
 ·rw [M.over_some hw]
  have e1 : M.stepAt m n = M.step k0 p (M.own m.Plan.Slots n m.Tick) := by
   unfold M.stepAt; rw [List.getD_eq_getElem?_getD, hk, List.getD_eq_getElem?_getD, hp]; rfl
  have e2 : p.getD k0.At.toNat M.oz = o := by rw [List.getD_eq_getElem?_getD, ho]; rfl
  unfold M.actAt
  rw [e1]
  unfold M.step
  rw [e2]
  cases hs : k0.Stopped
  ·rw [if_neg (by decide)]
   generalize M.stepO k0 p.length (M.own m.Plan.Slots n m.Tick) o = k1
   rcases M.act4 m.Plan.Channels m.Holds n k1 o with ⟨h5, _, e⟩ | ⟨h56, hst, e⟩ | ⟨h5, ch', hc', hn, e⟩ | ⟨h6, ch', hc', hn, e⟩
   ·rw [e]; constructor
    ·rintro ⟨_, h⟩; simp only at h; omega
    ·rintro ⟨_, _, h, _⟩; exact absurd h h5
   ·rw [e]; constructor
    ·rintro ⟨_, h⟩; simp only at h; omega
    ·rintro ⟨_, _, h5, hA, hF⟩
     exfalso
     rw [hA, Int.toNat_natCast] at hst
     rcases hst with hl | ⟨ch', hc', ⟨_, hf⟩ | ⟨h6, _⟩⟩
     ·have := lt_of_some hc; omega
     ·rw [hc] at hc'; cases hc'; exact hf hF
     ·omega
   ·rw [e]; constructor
    ·rintro ⟨_, h⟩
     simp only at h
     refine ⟨hw, rfl, h5, h, ?_⟩
     rw [h, Int.toNat_natCast, hc] at hc'
     cases hc'; exact hn
    ·rintro ⟨_, _, _, hA, _⟩; exact ⟨hw, hA⟩
   ·rw [e]; constructor
    ·rintro ⟨_, h⟩; simp only at h; omega
    ·rintro ⟨_, _, h5, _⟩; omega
  ·rw [if_pos rfl]
   have e : M.act m.Plan.Channels m.Holds n k0 M.oz = (k0, m.Holds, -1) := rfl
   rw [e]; constructor
   ·rintro ⟨_, h⟩; simp only at h; omega
   ·rintro ⟨_, h, _⟩; cases h
 ·constructor
  ·rintro ⟨h, _⟩; exact absurd h hw
  ·rintro ⟨h, _⟩; exact absurd h hw
end Sk
