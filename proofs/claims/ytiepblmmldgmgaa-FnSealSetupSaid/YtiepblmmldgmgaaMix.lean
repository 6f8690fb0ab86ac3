/- Contracts of functions of the given program, and lemmas for them: each theorem states the condition under which it holds. -/
import Derived.Test.YtiepblmmldgmgaaChecked
import Derived.Test.YtiepblmmldgmgaaNums
import Derived.Test.YtiepblmmldgmgaaPol
namespace Sk
open Go Go.Proofs Go.RowKit
set_option maxHeartbeats 400000
set_option maxRecDepth 100000
set_option linter.unusedVariables false
set_option linter.unusedSimpArgs false
def M.mix1 (n x : Int) : Int := (1000003 * n + x % 1048573 + 1) % 1048573
def M.mix (key : Int) (xs : List Int) : Int := xs.foldl M.mix1 key
theorem M.mix_snoc (key : Int) (xs : List Int) (x : Int) : M.mix key (xs ++ [x]) = M.mix1 (M.mix key xs) x := by simp [M.mix]
theorem M.mix1_rng (n x : Int) : 0 ≤ M.mix1 n x ∧ M.mix1 n x ≤ 1048572 := by unfold M.mix1; omega
theorem tmod_neg (x : Int) (h : x.tmod 1048573 < 0) : x.tmod 1048573 + 1048573 = x % 1048573 := by
  rw [Int.tmod_eq_emod] at *; split at h <;> split <;> simp_all <;> omega
theorem tmod_pos (x : Int) (h : ¬ x.tmod 1048573 < 0) : x.tmod 1048573 = x % 1048573 := by
  rw [Int.tmod_eq_emod] at *; split at h <;> split <;> simp_all <;> omega
theorem tmod_bd (x : Int) : -1048573 < x.tmod 1048573 ∧ x.tmod 1048573 < 1048573 := by
  rw [Int.tmod_eq_emod]; split <;> simp_all <;> omega
theorem tmod_add (x : Int) : (x.tmod 1048573 + 1048573) % 1048573 = x % 1048573 := by
  rw [Int.tmod_eq_emod]; split <;> simp_all
theorem spec_MixNumbers (v : Value) (xs : List Int) (key : Int) (w : World) (h : Rs w v xs) (hk0 : 0 ≤ key) (hk1 : key ≤ 1048572) :
    Calls Try.prog 61 #[.int .i64 key, v] w fun e w' => e = .returned (.int .i64 (M.mix key xs)) ∧ w = w' := by
  obtain ⟨a, c, rfl, hl⟩ := h.form
  have H := Lib.hid h
  clear h
  have hin := M.inn_t hk0 hk1
  go_enter Try.func61, Try.ntmps61
  go_wp2_with (go_at_call 45; refine (spec_In _ _ _ _).mono ?_; rintro e w' ⟨rfl, rfl⟩)
  go_loop [5, 6] (fun n i => ∃ (k : Nat) (r : Int), k ≤ xs.length ∧ i = .int .i64 k ∧ n = .int .i64 r ∧ 0 ≤ r ∧ r ≤ 1048572 ∧ Hid (r = M.mix key (xs.take k))) (fun _ i => xs.length - (intOf i).toNat)
  case atStart => exact ⟨0, key, Nat.zero_le _, by go_num, rfl, hk0, hk1, Lib.hid rfl⟩
  case round =>
    obtain ⟨k, r, hk, rfl, rfl, hr0, hr1, hr⟩ := hrel
    by_cases hlt : k < xs.length
    · obtain ⟨b, o, x, rfl, _, hx, hc, hxr⟩ := H.out.atInt k hlt
      have hs : Hid (M.mix key (xs.take (k + 1)) = M.mix1 r x) := Lib.hid (by rw [take_snoc hx.out, M.mix_snoc, ← hr.out])
      have hm := M.mix1_rng r x
      by_cases hneg : x.tmod 1048573 < 0
      · have hq := Lib.hid (tmod_neg x hneg)
        have hb := (tmod_bd x).1
        go_wp2
        go_round
        case rel => exact ⟨k + 1, M.mix1 r x, by omega, by go_num, by have h := hq.out; unfold M.mix1; rw [← h], hm.1, hm.2, Lib.hid hs.out.symm⟩
        case measure => simp [intOf]; omega
      · have hq := Lib.hid (tmod_pos x hneg)
        have hb := (tmod_bd x).2
        go_wp2
        go_round
        case rel => exact ⟨k + 1, M.mix1 r x, by omega, by go_num, by have h := hq.out; unfold M.mix1; rw [← h], hm.1, hm.2, Lib.hid hs.out.symm⟩
        case measure => simp [intOf]; omega
    · obtain rfl : k = xs.length := by omega
      have hr2 := hr.out
      rw [List.take_length] at hr2
      go_wp2
      go_ret
      exact ⟨rfl, rfl⟩
theorem impl_MixNumbers (v : Value) (xs : List Int) (key : Int) (w : World) (h : Rs w v xs) (hk0 : 0 ≤ key) (hk1 : key ≤ 1048572) :
    Calls Try.prog 60 #[.int .i64 key, v] w fun e w' => e = .returned (.int .i64 (M.mix key xs)) ∧ w = w' := by
  obtain ⟨a, c, rfl, hl⟩ := h.form
  have H := Lib.hid h
  clear h
  have hin := M.inn_t hk0 hk1
  go_enter Try.func60, Try.ntmps60
  go_wp2_with (go_at_call 58; refine (impl_isKey _ _).mono ?_; rintro e w' ⟨rfl, rfl⟩)
  go_loop [0, 6, 12] (fun n _ i => ∃ (k : Nat) (r : Int), k ≤ xs.length ∧ i = .int .i64 k ∧ n = .int .i64 r ∧ 0 ≤ r ∧ r ≤ 1048572 ∧ Hid (r = M.mix key (xs.take k))) (fun _ _ i => xs.length - (intOf i).toNat)
  case atStart => exact ⟨0, key, Nat.zero_le _, by go_num, rfl, hk0, hk1, Lib.hid rfl⟩
  case round =>
    obtain ⟨k, r, hk, rfl, rfl, hr0, hr1, hr⟩ := hrel
    by_cases hlt : k < xs.length
    · obtain ⟨b, o, x, rfl, _, hx, hc, hxr⟩ := H.out.atInt k hlt
      have hs : Hid (M.mix key (xs.take (k + 1)) = M.mix1 r x) := Lib.hid (by rw [take_snoc hx.out, M.mix_snoc, ← hr.out])
      have hm := M.mix1_rng r x
      have hq := Lib.hid (tmod_add x)
      have hb := tmod_bd x
      obtain ⟨hb1, hb2⟩ := hb
      go_wp2
      go_round
      case rel => exact ⟨k + 1, M.mix1 r x, by omega, by go_num, by have h := hq.out; unfold M.mix1; rw [← h]; simp, hm.1, hm.2, Lib.hid hs.out.symm⟩
      case measure => simp [intOf]; omega
    · obtain rfl : k = xs.length := by omega
      have hr2 := hr.out
      rw [List.take_length] at hr2
      go_wp2
      go_ret
      exact ⟨rfl, rfl⟩
end Sk

namespace Sk
open Go Go.Proofs Go.RowKit
set_option maxHeartbeats 400000
set_option maxRecDepth 100000
set_option linter.unusedVariables false
set_option linter.unusedSimpArgs false
/-- A channel that lets something flow from f to t. -/
def M.dc (f t : Int) (c : Channel) : Bool := (c.From == f && c.To == t) || (c.Kind == 3 && c.From == t && c.To == f)
def M.dir (cs : List Channel) (f t : Int) : Bool := (f == t) || cs.any (M.dc f t)
end Sk

namespace Sk
open Go Go.Proofs Go.RowKit
set_option maxHeartbeats 400000
set_option maxRecDepth 100000
set_option linter.unusedVariables false
set_option linter.unusedSimpArgs false
/-- k steps of f. -/
def M.upto {β : Type} (f : β → Nat → β) (b : β) : Nat → β
  | 0 => b
  | k + 1 => f (M.upto f b k) k
theorem M.upto_inv {β : Type} {f : β → Nat → β} {b : β} (P : β → Prop) (h0 : P b) (hs : ∀ x k, P x → P (f x k)) (k : Nat) : P (M.upto f b k) := by
  induction k with
  | zero => exact h0
  | succ k ih => exact hs _ _ ih
def M.fstep (cs : List Channel) (a : Nat) (out : List Bool) (b : Nat) : List Bool := out.set a (out.getD a false || (out.getD b false && M.dir cs a b))
def M.frow (cs : List Channel) (n : Nat) (out : List Bool) (a : Nat) : List Bool := M.upto (M.fstep cs a) out n
def M.fround (cs : List Channel) (n : Nat) (out : List Bool) (_ : Nat) : List Bool := M.upto (M.frow cs n) out n
/-- Which partitions may have influence on k. -/
def M.flows (cs : List Channel) (n k : Nat) : List Bool := M.upto (M.fround cs n) ((List.replicate n false).set k true) n
theorem M.fstep_t {cs : List Channel} {a b : Nat} {out : List Bool} (h : out.getD a false = true) : M.fstep cs a out b = out.set a true := by unfold M.fstep; rw [h]; rfl
theorem M.fstep_f {cs : List Channel} {a b : Nat} {out : List Bool} (h : out.getD a false = false) (k : out.getD b false = false) : M.fstep cs a out b = out.set a false := by unfold M.fstep; rw [h, k]; rfl
theorem M.fstep_d {cs : List Channel} {a b : Nat} {out : List Bool} (h : out.getD a false = false) (k : out.getD b false = true) : M.fstep cs a out b = out.set a (M.dir cs a b) := by unfold M.fstep; rw [h, k]; rfl
theorem M.fstep_len {cs : List Channel} {a : Nat} {out : List Bool} {b : Nat} : (M.fstep cs a out b).length = out.length := List.length_set ..
theorem M.frow_len {cs : List Channel} {n a : Nat} {out : List Bool} {k : Nat} : (M.upto (M.fstep cs a) out k).length = out.length :=
  M.upto_inv (fun x : List Bool => x.length = out.length) rfl (fun x k h => M.fstep_len.trans h) k
theorem M.fround_len {cs : List Channel} {n : Nat} {out : List Bool} {k : Nat} : (M.upto (M.frow cs n) out k).length = out.length :=
  M.upto_inv (fun x : List Bool => x.length = out.length) rfl (fun x k h => (M.frow_len (n := n)).trans h) k
theorem M.flows_len' {cs : List Channel} {n : Nat} {out : List Bool} {k : Nat} : (M.upto (M.fround cs n) out k).length = out.length :=
  M.upto_inv (fun x : List Bool => x.length = out.length) rfl (fun x k h => M.fround_len.trans h) k
theorem M.flows_len (cs : List Channel) (n k : Nat) : (M.flows cs n k).length = n := by
  unfold M.flows; rw [M.flows_len']; simp
theorem Os.mono {α : Type} [GT α] {L L' : Nat} {w : World} {v : Value} {xs : List α} (h : Os L w v xs) (hl : L' ≤ L) : Os L' w v xs := by
  obtain ⟨F, h, o⟩ := h; exact ⟨F, h, o.mono hl⟩
theorem Os.bool {L : Nat} {w : World} {b o n c : Nat} {xs : List Bool} (h : Os L w (.slice (some ⟨b, o, none⟩) n c) xs) (k : Nat) (hk : k < xs.length) :
    w.cell? ⟨b, o + k, none⟩ = some (.bool (xs.getD k false)) ∧ w.frozen? ⟨b, o + k, none⟩ = false ∧ b < w.heap.size := by
  obtain ⟨b', o', x, hb, hlt, hx, hc⟩ := h.rs.atBool k hk
  cases hb
  obtain ⟨b2, o2, cs2, F2, x0, hb2, _, _, _, _, hf⟩ := h.at k hk
  cases hb2
  rw [List.getD_eq_getElem?_getD, hx.out]
  exact ⟨hc, hf _, hlt⟩
theorem Os.setB {L : Nat} {w : World} {b n c : Nat} {xs : List Bool} (h : Os L w (.slice (some ⟨b, 0, none⟩) n c) xs) (hL : L ≤ w.heap.size) (k : Nat) (hk : k < xs.length) (y : Bool) :
    Os L (w.setCell ⟨b, k, none⟩ (.bool y)) (.slice (some ⟨b, 0, none⟩) n c) (xs.set k y) := by
  have := h.put (i := k) (Ext.refl _) hk hL (⟨[], ⟨rfl, rfl⟩, Own.nil _ _⟩ : Ow _ _ [.bool y] y)
  simpa only [GT.sz, putCells, Nat.mul_one, Nat.zero_add] using this
end Sk

