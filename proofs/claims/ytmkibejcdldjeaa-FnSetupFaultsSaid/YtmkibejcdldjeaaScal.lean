/- Contracts of functions of the given program, and lemmas for them: each theorem states the condition under which it holds. -/
import Derived.Test.YtmkibejcdldjeaaChecked
import Derived.Test.YtmkibejcdldjeaaTypes
namespace Sk
open Go Go.Proofs Go.RowKit
set_option maxHeartbeats 400000
set_option maxRecDepth 100000
set_option linter.unusedVariables false
set_option linter.unusedSimpArgs false
/-- lo ≤ n ≤ hi. -/
def M.inn (n lo hi : Int) : Bool := decide (lo ≤ n) && decide (n ≤ hi)
theorem M.inn_t {n lo hi : Int} (h1 : lo ≤ n) (h2 : n ≤ hi) : M.inn n lo hi = true := by simp [M.inn, h1, h2]
theorem M.inn_f {n lo hi : Int} (h : ¬ (lo ≤ n ∧ n ≤ hi)) : M.inn n lo hi = false := by simp [M.inn]; omega
theorem M.inn_iff {n lo hi : Int} : M.inn n lo hi = true ↔ lo ≤ n ∧ n ≤ hi := by simp [M.inn]
theorem M.inn_ff {n lo hi : Int} (h : M.inn n lo hi = false) : ¬ (lo ≤ n ∧ n ≤ hi) := fun h' => by rw [M.inn_t h'.1 h'.2] at h; cases h
theorem spec_In (n lo hi : Int) (w : World) : Calls Try.prog 61 #[.int .i64 n, .int .i64 lo, .int .i64 hi] w fun e w' => e = .returned (.bool (M.inn n lo hi)) ∧ w = w' := by
  by_cases h1 : lo ≤ n
  · have hm : Hid (M.inn n lo hi = decide (n ≤ hi)) := by simp [M.inn, h1, Hid]
    go_enter Try.func61, Try.ntmps61
    go_wp2
    all_goals go_ret
    all_goals exact ⟨by rw [hm.out]; rfl, rfl⟩
  · have hm : Hid (M.inn n lo hi = false) := by simp [M.inn, h1, Hid]
    go_enter Try.func61, Try.ntmps61
    go_wp2
    all_goals go_ret
    all_goals exact ⟨by rw [hm.out]; rfl, rfl⟩
theorem impl_in (n lo hi : Int) (w : World) : Calls Try.prog 53 #[.int .i64 n, .int .i64 lo, .int .i64 hi] w fun e w' => e = .returned (.bool (M.inn n lo hi)) ∧ w = w' := by
  by_cases h1 : lo ≤ n
  · have hm : Hid (M.inn n lo hi = decide (n ≤ hi)) := by simp [M.inn, h1, Hid]
    go_enter Try.func53, Try.ntmps53
    go_wp2
    all_goals go_ret
    all_goals exact ⟨by rw [hm.out]; rfl, rfl⟩
  · have hm : Hid (M.inn n lo hi = false) := by simp [M.inn, h1, Hid]
    go_enter Try.func53, Try.ntmps53
    go_wp2
    all_goals go_ret
    all_goals exact ⟨by rw [hm.out]; rfl, rfl⟩
def M.bit (b : Bool) : Int := if b then 1 else 0
theorem impl_bit (b : Bool) (w : World) : Calls Try.prog 27 #[.bool b] w fun e w' => e = .returned (.int .i64 (M.bit b)) ∧ w = w' := by
  cases b
  · go_enter Try.func27, Try.ntmps27
    go_wp2
    go_ret
    exact ⟨rfl, rfl⟩
  · go_enter Try.func27, Try.ntmps27
    go_wp2
    go_ret
    exact ⟨rfl, rfl⟩
/-- A kind and a size that fit. -/
noncomputable def M.sized (k s : Int) : Bool := Bo (k = 1 ∧ s = 1 ∨ (k = 2 ∨ k = 3) ∧ 1 ≤ s ∧ s ≤ 4)
theorem impl_sized (k s : Int) (w : World) : Calls Try.prog 70 #[.int .i64 k, .int .i64 s] w fun e w' => e = .returned (.bool (M.sized k s)) ∧ w = w' := by
  by_cases h1 : k = 1
  · subst h1
    have hm : Hid (M.sized 1 s = (s == 1)) := by
      unfold Hid M.sized
      by_cases h : s = 1
      · rw [Bo.t (by omega)]; simp [h]
      · rw [Bo.f (by omega)]; simp [h]
    go_enter Try.func70, Try.ntmps70
    go_wp2
    all_goals go_ret
    all_goals exact ⟨by rw [hm.out]; (first | rfl | simp_all), rfl⟩
  · have h1' : (k == 1) = false := by simpa using h1
    by_cases h2 : k = 2
    · subst h2
      have hm : Hid (M.sized 2 s = M.inn s 1 4) := by
        unfold Hid M.sized
        by_cases h : 1 ≤ s ∧ s ≤ 4
        · rw [Bo.t (by omega), M.inn_t h.1 h.2]
        · rw [Bo.f (by omega), M.inn_f h]
      clear h1 h1'
      go_enter Try.func70, Try.ntmps70
      go_wp2_with (go_at_call 53; refine (impl_in _ _ _ _).mono ?_; rintro e w' ⟨rfl, rfl⟩)
      go_ret
      exact ⟨by rw [hm.out]; rfl, rfl⟩
    · have h2' : (k == 2) = false := by simpa using h2
      by_cases h3 : k = 3
      · subst h3
        have hm : Hid (M.sized 3 s = M.inn s 1 4) := by
          unfold Hid M.sized
          by_cases h : 1 ≤ s ∧ s ≤ 4
          · rw [Bo.t (by omega), M.inn_t h.1 h.2]
          · rw [Bo.f (by omega), M.inn_f h]
        clear h1 h1' h2 h2'
        go_enter Try.func70, Try.ntmps70
        go_wp2_with (go_at_call 53; refine (impl_in _ _ _ _).mono ?_; rintro e w' ⟨rfl, rfl⟩)
        go_ret
        exact ⟨by rw [hm.out]; rfl, rfl⟩
      · have h3' : (k == 3) = false := by simpa using h3
        have hm : Hid (M.sized k s = false) := Lib.hid (Bo.f (by omega))
        clear h1 h2 h3
        go_enter Try.func70, Try.ntmps70
        go_wp2
        go_ret
        exact ⟨by rw [hm.out]; rfl, rfl⟩
end Sk

namespace Sk
open Go Go.Proofs Go.RowKit
set_option maxHeartbeats 400000
set_option maxRecDepth 100000
set_option linter.unusedVariables false
set_option linter.unusedSimpArgs false
def M.idx {α : Type} (p : α → Bool) (xs : List α) : Int := match xs.findIdx? p with | some i => (i : Int) | none => -1
theorem M.idx_none {α : Type} {p : α → Bool} {xs : List α} (h : ∀ x ∈ xs, p x = false) : M.idx p xs = -1 := by
  have : xs.findIdx? p = none := by simpa using h
  simp [M.idx, this]
theorem M.idx_at {α : Type} {p : α → Bool} {xs : List α} {k : Nat} {x : α} (h : ∀ x ∈ xs.take k, p x = false) (hk : xs[k]? = some x) (hp : p x = true) : M.idx p xs = k := by
  have : xs.findIdx? p = some k := by
    obtain ⟨hl, rfl⟩ := List.getElem?_eq_some_iff.1 hk
    rw [List.findIdx?_eq_some_iff_getElem]
    refine ⟨hl, hp, fun j hj => ?_⟩
    have := h xs[j] (by rw [List.mem_take_iff_getElem]; exact ⟨j, by omega, rfl⟩)
    simp [this]
  simp [M.idx, this]
theorem M.idx_any {α : Type} {p : α → Bool} {xs : List α} : decide (0 ≤ M.idx p xs) = xs.any p := by
  unfold M.idx
  cases h : xs.findIdx? p with
  | none =>
    have : xs.any p = false := by rw [List.any_eq_false]; intro x hx; have := List.findIdx?_eq_none_iff.1 h x hx; simp [this]
    simp [this]
  | some i =>
    have : xs.any p = true := by
      obtain ⟨hl, hp, _⟩ := List.findIdx?_eq_some_iff_getElem.1 h
      rw [List.any_eq_true]; exact ⟨xs[i], List.getElem_mem hl, hp⟩
    simp [this]
theorem idx_Window (g : Nat) (caps : Array Value) (p : Window → Bool) (v : Value) (xs : List Window) (w : World) (h : Rs w v xs) (hg : ∀ ar u, (callFunc g ar).run Try.prog u = .ok (.enter g ar) u)
    (hc : ∀ (w1 : World) (v : Value) (x : Window), Ext w w1 → x ∈ xs → Rv w1 v x → Calls Try.prog g (#[v] ++ caps) w1 fun e w2 => e = .returned (.bool (p x)) ∧ Ext w1 w2) :
    Calls Try.prog 63 #[v, .func (.func g) #[] caps] w fun e w' => e = .returned (.int .i64 (M.idx p xs)) ∧ Ext w w' := by
  obtain ⟨a, c, rfl, hl⟩ := h.form
  have H := Lib.hid h
  have HC := Lib.hid hc
  clear h hc
  go_enter Try.func63, Try.ntmps63
  go_wp2
  go_loopw [5, 8] (fun _ i wr => ∃ k : Nat, k ≤ xs.length ∧ i = .int .i64 k ∧ (∀ x ∈ xs.take k, p x = false) ∧ Ext w wr) (fun _ i _ => xs.length - (intOf i).toNat)
  case atStart => exact ⟨0, Nat.zero_le _, rfl, by simp, .refl _⟩
  case round =>
    obtain ⟨k, hk, rfl, he, hq⟩ := hrel
    have HE := Lib.hid he
    have HQ := Lib.hid hq
    clear he hq
    by_cases hlt : k < xs.length
    · skip
      obtain ⟨b, o, x, rfl, hb, hx1, hc0, hc1, hc2, hr0, hr1, hv⟩ := (H.out.ext HQ.out).atWindow k hlt
      have hcx := Lib.hid (HC.out wr _ x HQ.out (List.mem_of_getElem? hx1.out) hv.out)
      clear H HC
      go_wp2_with fail
      refine hcx.out.mono ?_
      rintro e w2 ⟨rfl, he2⟩
      have HE2 := Lib.hid (HQ.out.tr he2)
      clear he2
      by_cases hp : p x = true
      · have HN := Lib.hid (M.idx_at HE.out hx1.out hp)
        go_wp2
        go_ret
        exact ⟨ret_i HN.out.symm, HE2.out⟩
      · rw [Bool.not_eq_true] at hp
        go_wp2
        go_roundw
        case rel =>
          refine ⟨k + 1, by omega, by go_num, ?_, HE2.out⟩
          rw [take_snoc hx1.out]
          intro y hy
          rcases List.mem_append.1 hy with hy | hy
          · exact HE.out y hy
          · rw [List.mem_singleton] at hy; subst hy; exact hp
        case measure => simp [intOf]; omega
    · obtain rfl : k = xs.length := by omega
      have HN := Lib.hid (M.idx_none (p := p) (xs := xs) (by have := HE.out; rwa [List.take_length] at this))
      clear H HC
      go_wp2
      go_ret
      exact ⟨ret_i HN.out.symm, HQ.out⟩
theorem has_Window (g : Nat) (caps : Array Value) (p : Window → Bool) (v : Value) (xs : List Window) (w : World) (h : Rs w v xs) (hg : ∀ ar u, (callFunc g ar).run Try.prog u = .ok (.enter g ar) u)
    (hc : ∀ (w1 : World) (v : Value) (x : Window), Ext w w1 → x ∈ xs → Rv w1 v x → Calls Try.prog g (#[v] ++ caps) w1 fun e w2 => e = .returned (.bool (p x)) ∧ Ext w1 w2) :
    Calls Try.prog 92 #[v, .func (.func g) #[] caps] w fun e w' => e = .returned (.bool (xs.any p)) ∧ Ext w w' := by
  have HX := Lib.hid (idx_Window g caps p v xs w h hg hc)
  clear hc hg h
  go_enter Try.func92, Try.ntmps92
  go_wp2_with fail
  refine HX.out.mono ?_
  rintro e w2 ⟨rfl, he2⟩
  have HE := Lib.hid he2
  have HN := Lib.hid (M.idx_any (p := p) (xs := xs))
  clear he2
  generalize M.idx p xs = i at *
  go_wp2
  go_ret
  exact ⟨wp_cond_ret HN.out, HE.out⟩
theorem idx_Part (g : Nat) (caps : Array Value) (p : Part → Bool) (v : Value) (xs : List Part) (w : World) (h : Rs w v xs) (hg : ∀ ar u, (callFunc g ar).run Try.prog u = .ok (.enter g ar) u)
    (hc : ∀ (w1 : World) (v : Value) (x : Part), Ext w w1 → x ∈ xs → Rv w1 v x → Calls Try.prog g (#[v] ++ caps) w1 fun e w2 => e = .returned (.bool (p x)) ∧ Ext w1 w2) :
    Calls Try.prog 95 #[v, .func (.func g) #[] caps] w fun e w' => e = .returned (.int .i64 (M.idx p xs)) ∧ Ext w w' := by
  obtain ⟨a, c, rfl, hl⟩ := h.form
  have H := Lib.hid h
  have HC := Lib.hid hc
  clear h hc
  go_enter Try.func95, Try.ntmps95
  go_wp2
  go_loopw [5, 8] (fun _ i wr => ∃ k : Nat, k ≤ xs.length ∧ i = .int .i64 k ∧ (∀ x ∈ xs.take k, p x = false) ∧ Ext w wr) (fun _ i _ => xs.length - (intOf i).toNat)
  case atStart => exact ⟨0, Nat.zero_le _, rfl, by simp, .refl _⟩
  case round =>
    obtain ⟨k, hk, rfl, he, hq⟩ := hrel
    have HE := Lib.hid he
    have HQ := Lib.hid hq
    clear he hq
    by_cases hlt : k < xs.length
    · skip
      obtain ⟨b, o, x, a0, c0, rfl, hb, hx1, hc0, hc1, hr1, hs0, hl0, hv⟩ := (H.out.ext HQ.out).atPart k hlt
      have hcx := Lib.hid (HC.out wr _ x HQ.out (List.mem_of_getElem? hx1.out) hv.out)
      clear H HC
      go_wp2_with fail
      refine hcx.out.mono ?_
      rintro e w2 ⟨rfl, he2⟩
      have HE2 := Lib.hid (HQ.out.tr he2)
      clear he2
      by_cases hp : p x = true
      · have HN := Lib.hid (M.idx_at HE.out hx1.out hp)
        go_wp2
        go_ret
        exact ⟨ret_i HN.out.symm, HE2.out⟩
      · rw [Bool.not_eq_true] at hp
        go_wp2
        go_roundw
        case rel =>
          refine ⟨k + 1, by omega, by go_num, ?_, HE2.out⟩
          rw [take_snoc hx1.out]
          intro y hy
          rcases List.mem_append.1 hy with hy | hy
          · exact HE.out y hy
          · rw [List.mem_singleton] at hy; subst hy; exact hp
        case measure => simp [intOf]; omega
    · obtain rfl : k = xs.length := by omega
      have HN := Lib.hid (M.idx_none (p := p) (xs := xs) (by have := HE.out; rwa [List.take_length] at this))
      clear H HC
      go_wp2
      go_ret
      exact ⟨ret_i HN.out.symm, HQ.out⟩
theorem has_Part (g : Nat) (caps : Array Value) (p : Part → Bool) (v : Value) (xs : List Part) (w : World) (h : Rs w v xs) (hg : ∀ ar u, (callFunc g ar).run Try.prog u = .ok (.enter g ar) u)
    (hc : ∀ (w1 : World) (v : Value) (x : Part), Ext w w1 → x ∈ xs → Rv w1 v x → Calls Try.prog g (#[v] ++ caps) w1 fun e w2 => e = .returned (.bool (p x)) ∧ Ext w1 w2) :
    Calls Try.prog 66 #[v, .func (.func g) #[] caps] w fun e w' => e = .returned (.bool (xs.any p)) ∧ Ext w w' := by
  have HX := Lib.hid (idx_Part g caps p v xs w h hg hc)
  clear hc hg h
  go_enter Try.func66, Try.ntmps66
  go_wp2_with fail
  refine HX.out.mono ?_
  rintro e w2 ⟨rfl, he2⟩
  have HE := Lib.hid he2
  have HN := Lib.hid (M.idx_any (p := p) (xs := xs))
  clear he2
  generalize M.idx p xs = i at *
  go_wp2
  go_ret
  exact ⟨wp_cond_ret HN.out, HE.out⟩
theorem idx_Channel (g : Nat) (caps : Array Value) (p : Channel → Bool) (v : Value) (xs : List Channel) (w : World) (h : Rs w v xs) (hg : ∀ ar u, (callFunc g ar).run Try.prog u = .ok (.enter g ar) u)
    (hc : ∀ (w1 : World) (v : Value) (x : Channel), Ext w w1 → x ∈ xs → Rv w1 v x → Calls Try.prog g (#[v] ++ caps) w1 fun e w2 => e = .returned (.bool (p x)) ∧ Ext w1 w2) :
    Calls Try.prog 59 #[v, .func (.func g) #[] caps] w fun e w' => e = .returned (.int .i64 (M.idx p xs)) ∧ Ext w w' := by
  obtain ⟨a, c, rfl, hl⟩ := h.form
  have H := Lib.hid h
  have HC := Lib.hid hc
  clear h hc
  go_enter Try.func59, Try.ntmps59
  go_wp2
  go_loopw [5, 8] (fun _ i wr => ∃ k : Nat, k ≤ xs.length ∧ i = .int .i64 k ∧ (∀ x ∈ xs.take k, p x = false) ∧ Ext w wr) (fun _ i _ => xs.length - (intOf i).toNat)
  case atStart => exact ⟨0, Nat.zero_le _, rfl, by simp, .refl _⟩
  case round =>
    obtain ⟨k, hk, rfl, he, hq⟩ := hrel
    have HE := Lib.hid he
    have HQ := Lib.hid hq
    clear he hq
    by_cases hlt : k < xs.length
    · skip
      obtain ⟨b, o, x, rfl, hb, hx1, hc0, hc1, hc2, hc3, hr0, hr1, hr2, hr3, hv⟩ := (H.out.ext HQ.out).atChannel k hlt
      have hcx := Lib.hid (HC.out wr _ x HQ.out (List.mem_of_getElem? hx1.out) hv.out)
      clear H HC
      go_wp2_with fail
      refine hcx.out.mono ?_
      rintro e w2 ⟨rfl, he2⟩
      have HE2 := Lib.hid (HQ.out.tr he2)
      clear he2
      by_cases hp : p x = true
      · have HN := Lib.hid (M.idx_at HE.out hx1.out hp)
        go_wp2
        go_ret
        exact ⟨ret_i HN.out.symm, HE2.out⟩
      · rw [Bool.not_eq_true] at hp
        go_wp2
        go_roundw
        case rel =>
          refine ⟨k + 1, by omega, by go_num, ?_, HE2.out⟩
          rw [take_snoc hx1.out]
          intro y hy
          rcases List.mem_append.1 hy with hy | hy
          · exact HE.out y hy
          · rw [List.mem_singleton] at hy; subst hy; exact hp
        case measure => simp [intOf]; omega
    · obtain rfl : k = xs.length := by omega
      have HN := Lib.hid (M.idx_none (p := p) (xs := xs) (by have := HE.out; rwa [List.take_length] at this))
      clear H HC
      go_wp2
      go_ret
      exact ⟨ret_i HN.out.symm, HQ.out⟩
theorem has_Channel (g : Nat) (caps : Array Value) (p : Channel → Bool) (v : Value) (xs : List Channel) (w : World) (h : Rs w v xs) (hg : ∀ ar u, (callFunc g ar).run Try.prog u = .ok (.enter g ar) u)
    (hc : ∀ (w1 : World) (v : Value) (x : Channel), Ext w w1 → x ∈ xs → Rv w1 v x → Calls Try.prog g (#[v] ++ caps) w1 fun e w2 => e = .returned (.bool (p x)) ∧ Ext w1 w2) :
    Calls Try.prog 68 #[v, .func (.func g) #[] caps] w fun e w' => e = .returned (.bool (xs.any p)) ∧ Ext w w' := by
  have HX := Lib.hid (idx_Channel g caps p v xs w h hg hc)
  clear hc hg h
  go_enter Try.func68, Try.ntmps68
  go_wp2_with fail
  refine HX.out.mono ?_
  rintro e w2 ⟨rfl, he2⟩
  have HE := Lib.hid he2
  have HN := Lib.hid (M.idx_any (p := p) (xs := xs))
  clear he2
  generalize M.idx p xs = i at *
  go_wp2
  go_ret
  exact ⟨wp_cond_ret HN.out, HE.out⟩
theorem idx_Slot (g : Nat) (caps : Array Value) (p : Slot → Bool) (v : Value) (xs : List Slot) (w : World) (h : Rs w v xs) (hg : ∀ ar u, (callFunc g ar).run Try.prog u = .ok (.enter g ar) u)
    (hc : ∀ (w1 : World) (v : Value) (x : Slot), Ext w w1 → x ∈ xs → Rv w1 v x → Calls Try.prog g (#[v] ++ caps) w1 fun e w2 => e = .returned (.bool (p x)) ∧ Ext w1 w2) :
    Calls Try.prog 96 #[v, .func (.func g) #[] caps] w fun e w' => e = .returned (.int .i64 (M.idx p xs)) ∧ Ext w w' := by
  obtain ⟨a, c, rfl, hl⟩ := h.form
  have H := Lib.hid h
  have HC := Lib.hid hc
  clear h hc
  go_enter Try.func96, Try.ntmps96
  go_wp2
  go_loopw [5, 8] (fun _ i wr => ∃ k : Nat, k ≤ xs.length ∧ i = .int .i64 k ∧ (∀ x ∈ xs.take k, p x = false) ∧ Ext w wr) (fun _ i _ => xs.length - (intOf i).toNat)
  case atStart => exact ⟨0, Nat.zero_le _, rfl, by simp, .refl _⟩
  case round =>
    obtain ⟨k, hk, rfl, he, hq⟩ := hrel
    have HE := Lib.hid he
    have HQ := Lib.hid hq
    clear he hq
    by_cases hlt : k < xs.length
    · skip
      obtain ⟨b, o, x, rfl, hb, hx1, hc0, hc1, hr0, hr1, hv⟩ := (H.out.ext HQ.out).atSlot k hlt
      have hcx := Lib.hid (HC.out wr _ x HQ.out (List.mem_of_getElem? hx1.out) hv.out)
      clear H HC
      go_wp2_with fail
      refine hcx.out.mono ?_
      rintro e w2 ⟨rfl, he2⟩
      have HE2 := Lib.hid (HQ.out.tr he2)
      clear he2
      by_cases hp : p x = true
      · have HN := Lib.hid (M.idx_at HE.out hx1.out hp)
        go_wp2
        go_ret
        exact ⟨ret_i HN.out.symm, HE2.out⟩
      · rw [Bool.not_eq_true] at hp
        go_wp2
        go_roundw
        case rel =>
          refine ⟨k + 1, by omega, by go_num, ?_, HE2.out⟩
          rw [take_snoc hx1.out]
          intro y hy
          rcases List.mem_append.1 hy with hy | hy
          · exact HE.out y hy
          · rw [List.mem_singleton] at hy; subst hy; exact hp
        case measure => simp [intOf]; omega
    · obtain rfl : k = xs.length := by omega
      have HN := Lib.hid (M.idx_none (p := p) (xs := xs) (by have := HE.out; rwa [List.take_length] at this))
      clear H HC
      go_wp2
      go_ret
      exact ⟨ret_i HN.out.symm, HQ.out⟩
theorem has_Slot (g : Nat) (caps : Array Value) (p : Slot → Bool) (v : Value) (xs : List Slot) (w : World) (h : Rs w v xs) (hg : ∀ ar u, (callFunc g ar).run Try.prog u = .ok (.enter g ar) u)
    (hc : ∀ (w1 : World) (v : Value) (x : Slot), Ext w w1 → x ∈ xs → Rv w1 v x → Calls Try.prog g (#[v] ++ caps) w1 fun e w2 => e = .returned (.bool (p x)) ∧ Ext w1 w2) :
    Calls Try.prog 71 #[v, .func (.func g) #[] caps] w fun e w' => e = .returned (.bool (xs.any p)) ∧ Ext w w' := by
  have HX := Lib.hid (idx_Slot g caps p v xs w h hg hc)
  clear hc hg h
  go_enter Try.func71, Try.ntmps71
  go_wp2_with fail
  refine HX.out.mono ?_
  rintro e w2 ⟨rfl, he2⟩
  have HE := Lib.hid he2
  have HN := Lib.hid (M.idx_any (p := p) (xs := xs))
  clear he2
  generalize M.idx p xs = i at *
  go_wp2
  go_ret
  exact ⟨wp_cond_ret HN.out, HE.out⟩
end Sk

