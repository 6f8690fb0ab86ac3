/- Contracts of functions of the given program, and lemmas for them: each theorem states the condition under which it holds. -/
import Derived.Test.YtiepblmmldgmgaaChecked
import Derived.Deep.CutBlock
import Derived.Deep.CutRange
import Derived.Test.YtiepblmmldgmgaaRefc
import Derived.Test.YtiepblmmldgmgaaApp
import Derived.Test.YtiepblmmldgmgaaScal
import Derived.Test.YtiepblmmldgmgaaBuild
import Derived.Test.YtiepblmmldgmgaaCopy
import Derived.Test.YtiepblmmldgmgaaDel
namespace Sk
open Go Go.Proofs Go.RowKit
set_option maxHeartbeats 4000000
set_option maxRecDepth 100000
set_option linter.unusedVariables false
set_option linter.unusedSimpArgs false
theorem Rs.tailI {W : World} {b o n c : Nat} {x : Int} {xs : List Int} (h : Rs W (.slice (some ⟨b, o, none⟩) n c) (x :: xs)) : Rs W (.slice (some ⟨b, o + 1, none⟩) (n - 1) (c - 1)) xs := by
  obtain ⟨F, a, c', he, hl, hc, ⟨h1, _⟩ | ⟨_, b', o', F', h1, rfl, hr⟩⟩ := h
  · cases h1
  · cases he; cases h1
    obtain ⟨cs, F1, F2, _, _, rfl, hr⟩ := hr
    simp only [List.length_cons] at hl
    by_cases hx : xs = []
    · subst hx; exact ⟨[], some ⟨b, o + 1, none⟩, c - 1, by simp, by simp, by unfold maxLen at *; omega, .inl ⟨rfl, rfl⟩⟩
    · exact ⟨b :: F2, some ⟨b, o + 1, none⟩, c - 1, by simp, by omega, by unfold maxLen at *; omega, .inr ⟨hx, b, o + 1, F2, rfl, rfl, by simpa [GT.sz] using hr⟩⟩
def M.hd : List Int → Int
  | [] => 0
  | x :: _ => x
theorem Rs.nilI {W : World} {a : Option Addr} {c : Nat} (hc : c ≤ 9223372036854775807) : Rs (α := Int) W (.slice a 0 c) [] := ⟨[], a, c, rfl, Nat.zero_le _, hc, .inl ⟨rfl, rfl⟩⟩
theorem Mo.bk {F : List Nat} {a b : World} {p : Nat} {cs : List Value} {T : TypeId} (h : Mo F a b) (k : Bk a p cs T) (hp : p ∉ F) : Bk b p cs T := (Mx.ofMo h).bk k hp
theorem Mo.cell {F : List Nat} {a b : World} (h : Mo F a b) {p o : Nat} (hp : p ∉ F) : b.cell? ⟨p, o, none⟩ = a.cell? ⟨p, o, none⟩ := World.cell?_of_block (h.2.2.1 p hp)
theorem Oo.mo {α : Type} [GT α] {e : TypeId} {L : Nat} {w w' : World} {v : Value} {xs : List α} {F : List Nat} (h : Oo e L w v xs) (k : Mo F w w') (hF : ∀ x ∈ F, x < L) : Oo e L w' v xs := by
  obtain ⟨G, h1, h2⟩ := h
  exact ⟨G, h1.keep (fun x hx => k.2.2.1 x (fun hm => by have := h1.own x hx; have := hF x hm; omega)) (fun x hx => k.2.2.1 x (fun hm => by have := (h2.2 x hx).1; have := hF x hm; omega)), k.own h2⟩
theorem Mo.drewN {F : List Nat} {a b : World} (h : Mo F a b) (n : Nat) : Mo F a (b.drewN n) := by
  obtain ⟨h1, h2, h3, h4⟩ := h
  exact ⟨h1, ⟨h2.os, h2.tape, h2.output, Nat.le_refl _, fun b hb => by cases hb⟩, h3, fun k hk => (h4 k hk).ext ((Ext.refl _).drewN n)⟩
theorem Mo.lt {F : List Nat} {a b : World} (h : Mo F a b) : b.heap.size = a.heap.size := h.1
/-- The program's reader: what is left of a list that lay in W, and whether reading has failed. -/
def Rn (W w : World) (b : Nat) (left : List Int) (bad : Bool) : Prop := W.heap.size ≤ b ∧ Ext W w ∧ ∃ a c, Bk w b [.slice a left.length c, .bool bad] 70 ∧ Rs W (.slice a left.length c) left
theorem Rn.mo {W w w' : World} {b : Nat} {left : List Int} {bad : Bool} {F : List Nat} (h : Rn W w b left bad) (k : Mo F w w') (hb : b ∉ F) (hF : ∀ x ∈ F, W.heap.size ≤ x) : Rn W w' b left bad := by
  obtain ⟨h1, h2, a, c, h3, h4⟩ := h
  exact ⟨h1, k.ext h2 hF, a, c, k.bk h3 hb, h4⟩
theorem Rn.lt {W w : World} {b : Nat} {left : List Int} {bad : Bool} (h : Rn W w b left bad) : b < w.heap.size := by obtain ⟨_, _, a, c, h3, _⟩ := h; exact h3.lt
theorem Rn.ext {W w w' : World} {b : Nat} {left : List Int} {bad : Bool} (h : Rn W w b left bad) (he : Ext w w') : Rn W w' b left bad := by
  obtain ⟨h1, h2, a, c, h3, h4⟩ := h
  exact ⟨h1, h2.tr he, a, c, h3.ext he, h4⟩
theorem Rn.of {W w w' : World} {b : Nat} {left : List Int} {bad : Bool} (h : Rn W w b left bad) (he : Ext W w') (hk : w'.heap[b]? = w.heap[b]?) : Rn W w' b left bad := by
  obtain ⟨h1, h2, a, c, h3, h4⟩ := h
  exact ⟨h1, he, a, c, by unfold Bk at *; rw [hk]; exact h3, h4⟩
theorem impl_next (W w : World) (b : Nat) (xs : List Int) (bad : Bool) (h : Rn W w b xs bad) :
    Calls Try.prog 39 #[.pointer (some ⟨b, 0, none⟩)] w fun e w' => ∃ r, e = .returned (.int .i64 r) ∧ r = M.hd xs ∧ rng r ∧ Mo [b] w w' ∧ Rn W w' b xs.tail (bad || xs.isEmpty) := by
  obtain ⟨hb, he, a, c, hk, hr⟩ := h
  have f0 := hk.cell (j := 0) rfl
  have f1 := hk.cell (j := 1) rfl
  have ff := hk.fz
  have hlt := hk.lt
  cases xs with
  | nil =>
    have HE := Lib.hid he
    have HK := Lib.hid hk
    have HR := Lib.hid hr
    clear he hk hr
    go_enter Try.func39, Try.ntmps39
    go_wp2
    go_ret
    refine ⟨0, rfl, rfl, rng_zero, (Mo.refl _ _).set (by simp) _, hb, HE.out.set hb _, a, c, ?_, HR.out⟩
    have := HK.out.set 1 (.bool true)
    simpa using this
  | cons x xs =>
    obtain ⟨b2, o2, x', rfl, hb2, hx, hc, hxr⟩ := (hr.ext he).atInt 0 (by simp)
    have hx := hx.out
    simp at hx
    subst hx
    have HE := Lib.hid he
    have HK := Lib.hid hk
    have HR := Lib.hid hr.tailI
    have hl : xs.length + 1 ≤ 9223372036854775807 := by obtain ⟨_, _, _, h⟩ := hr.form; simpa using h
    obtain ⟨hcl, hcm⟩ : xs.length + 1 ≤ c ∧ c ≤ 9223372036854775807 := by obtain ⟨F, a', c', he', h1, h2, _⟩ := hr; cases he'; unfold maxLen at h2; exact ⟨by simpa using h1, h2⟩
    clear he hk hr
    simp only [List.length_cons] at *
    rw [Nat.add_zero] at hc
    have hp : (0 : Int) < (xs.length : Int) + 1 := by omega
    have hp1 : (1 : Int) ≤ (xs.length : Int) + 1 := by omega
    go_enter Try.func39, Try.ntmps39
    go_wp2
    all_goals go_ret
    · obtain rfl : xs = [] := List.eq_nil_of_length_eq_zero (by omega)
      refine ⟨x, rfl, rfl, hxr, (Mo.refl _ _).set (by simp) _, hb, HE.out.set hb _, some ⟨b2, o2, none⟩, 0, ?_, Rs.nilI (by omega)⟩
      have := HK.out.set 0 (.slice (some ⟨b2, o2, none⟩) 0 0)
      simpa using this
    · refine ⟨x, rfl, rfl, hxr, (Mo.refl _ _).set (by simp) _, hb, HE.out.set hb _, some ⟨b2, o2 + 1, none⟩, c - 1, ?_, HR.out⟩
      have := HK.out.set 0 (.slice (some ⟨b2, o2 + 1, none⟩) xs.length (c - 1))
      simpa using this
def M.many (xs : List Int) (m : Int) : Int := if M.inn (M.hd xs) 0 m then M.hd xs else 0
def M.manyB (xs : List Int) (bad : Bool) (m : Int) : Bool := (bad || xs.isEmpty) || !M.inn (M.hd xs) 0 m
theorem impl_many (W w : World) (b : Nat) (xs : List Int) (bad : Bool) (m : Int) (h : Rn W w b xs bad) :
    Calls Try.prog 38 #[.pointer (some ⟨b, 0, none⟩), .int .i64 m] w fun e w' => ∃ r, e = .returned (.int .i64 r) ∧ r = M.many xs m ∧ rng r ∧ Mo [b] w w' ∧ Rn W w' b xs.tail (M.manyB xs bad m) := by
  have H := Lib.hid h
  clear h
  go_enter Try.func38, Try.ntmps38
  go_wp2_with fail
  refine (impl_next W w b xs bad H.out).mono ?_
  rintro e w1 ⟨r, rfl, hr, hrr, hm, hn⟩
  have HN := Lib.hid hn
  have HM := Lib.hid hm
  obtain ⟨hb, he, a, c, hk, hs⟩ := hn
  have f1 := hk.cell (j := 1) rfl
  have ff := hk.fz
  have HK := Lib.hid hk
  have HE := Lib.hid he
  have HS := Lib.hid hs
  have HRR := Lib.hid hrr
  obtain ⟨r1, r2⟩ := hrr
  clear hk he hs hm
  cases g : M.inn r 0 m
  · have hq := Lib.hid (by unfold M.many; rw [← hr, g]; rfl : M.many xs m = 0)
    have hb2 := Lib.hid (by unfold M.manyB; rw [← hr, g]; simp : M.manyB xs bad m = true)
    clear hr
    go_wp2_with (go_at_call 53; refine (impl_in _ _ _ _).mono ?_; rintro e w' ⟨rfl, rfl⟩)
    go_ret
    refine ⟨0, rfl, hq.out.symm, rng_zero, HM.out.set (by simp) _, hb, HE.out.set hb _, a, c, ?_, HS.out⟩
    rw [hb2.out]
    have := HK.out.set 1 (.bool true)
    simpa using this
  · have hq := Lib.hid (by unfold M.many; rw [← hr, g]; rfl : M.many xs m = r)
    have hb2 := Lib.hid (by unfold M.manyB; rw [← hr, g]; simp : M.manyB xs bad m = (bad || xs.isEmpty))
    clear hr
    go_wp2_with (go_at_call 53; refine (impl_in _ _ _ _).mono ?_; rintro e w' ⟨rfl, rfl⟩)
    go_ret
    exact ⟨r, rfl, hq.out.symm, HRR.out, HM.out, by rw [hb2.out]; exact HN.out⟩
/-- The reference's reader. -/
def Sn (W w : World) (b : Nat) (xs left : List Int) (bad : Bool) : Prop :=
  W.heap.size ≤ b ∧ Ext W w ∧ ∃ (p : Nat) (a : Option Addr) (c : Nat), p ≤ xs.length ∧ left = xs.drop p ∧ Bk w b [.slice a xs.length c, .int .i64 p, .bool bad] 77 ∧ Rs W (.slice a xs.length c) xs
theorem Sn.mo {W w w' : World} {b : Nat} {xs left : List Int} {bad : Bool} {F : List Nat} (h : Sn W w b xs left bad) (k : Mo F w w') (hb : b ∉ F) (hF : ∀ x ∈ F, W.heap.size ≤ x) : Sn W w' b xs left bad := by
  obtain ⟨h1, h2, p, a, c, h5, h6, h3, h4⟩ := h
  exact ⟨h1, k.ext h2 hF, p, a, c, h5, h6, k.bk h3 hb, h4⟩
theorem Sn.ext {W w w' : World} {b : Nat} {xs left : List Int} {bad : Bool} (h : Sn W w b xs left bad) (he : Ext w w') : Sn W w' b xs left bad := by
  obtain ⟨h1, h2, p, a, c, h5, h6, h3, h4⟩ := h
  exact ⟨h1, h2.tr he, p, a, c, h5, h6, h3.ext he, h4⟩
theorem Sn.of {W w w' : World} {b : Nat} {xs left : List Int} {bad : Bool} (h : Sn W w b xs left bad) (he : Ext W w') (hk : w'.heap[b]? = w.heap[b]?) : Sn W w' b xs left bad := by
  obtain ⟨h1, h2, p, a, c, h5, h6, h3, h4⟩ := h
  exact ⟨h1, he, p, a, c, h5, h6, by unfold Bk at *; rw [hk]; exact h3, h4⟩
theorem Sn.lt {W w : World} {b : Nat} {xs left : List Int} {bad : Bool} (h : Sn W w b xs left bad) : b < w.heap.size := by obtain ⟨_, _, p, a, c, _, _, h3, _⟩ := h; exact h3.lt
theorem Sn.bad {W w : World} {b : Nat} {xs left : List Int} {bad : Bool} (h : Sn W w b xs left bad) : w.cell? ⟨b, 2, none⟩ = some (.bool bad) ∧ ∀ j, w.frozen? ⟨b, j, none⟩ = false := by obtain ⟨_, _, p, a, c, _, _, h3, _⟩ := h; exact ⟨h3.cell (j := 2) rfl, h3.fz⟩
theorem Sn.setBad {W w : World} {b : Nat} {xs left : List Int} {bad : Bool} (h : Sn W w b xs left bad) (v : Bool) : Sn W (w.setCell ⟨b, 2, none⟩ (.bool v)) b xs left v := by
  obtain ⟨h1, h2, p, a, c, h5, h6, h3, h4⟩ := h
  exact ⟨h1, h2.set h1 _, p, a, c, h5, h6, by have := h3.set 2 (.bool v); simpa using this, h4⟩
theorem Rn.bad {W w : World} {b : Nat} {left : List Int} {bad : Bool} (h : Rn W w b left bad) : w.cell? ⟨b, 1, none⟩ = some (.bool bad) ∧ ∀ j, w.frozen? ⟨b, j, none⟩ = false := by obtain ⟨_, _, a, c, h3, _⟩ := h; exact ⟨h3.cell (j := 1) rfl, h3.fz⟩
end Sk

