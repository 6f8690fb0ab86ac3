/- Contracts of functions of the given program, and lemmas for them: each theorem states the condition under which it holds. -/
import Derived.Test.YtiepblmmldgmgaaChecked
import Derived.Test.YtiepblmmldgmgaaApp
import Derived.Test.YtiepblmmldgmgaaChan
import Derived.Test.YtiepblmmldgmgaaScal
namespace Sk
open Go Go.Proofs Go.RowKit
set_option maxHeartbeats 400000
set_option maxRecDepth 100000
set_option linter.unusedVariables false
set_option linter.unusedSimpArgs false
theorem elInt : El Try.prog 3 Int := El.of (z := .int .i64 0) (n := 1) (b := 8) (by kernel_rfl) rfl rfl (by decide)
/-- Numbers that lie one behind the other. -/
def CI (w : World) (b : Nat) : Nat → List Int → Prop
  | _, [] => True
  | o, n :: ns => w.cell? ⟨b, o, none⟩ = some (.int .i64 n) ∧ rng n ∧ CI w b (o + 1) ns
theorem CI.row {w : World} {b : Nat} {ns : List Int} : ∀ {o : Nat}, CI w b o ns → Row w b o ns [] := by
  induction ns with
  | nil => intro o _; rfl
  | cons n ns ih =>
    intro o h
    exact ⟨[.int .i64 n], [], [], ⟨rfl, h.2.1, rfl⟩, fun j u hj => by
      cases j with
      | zero => simp at hj; subst hj; exact h.1
      | succ j => simp at hj, rfl, ih h.2.2⟩
theorem rng_of {n : Int} (h1 : -9223372036854775808 ≤ n) (h2 : n ≤ 9223372036854775807) : rng n := ⟨h1, h2⟩
def M.wn (x : Window) : List Int := [x.Base, x.Size, M.bit x.Write]
def M.pn (p : Part) : List Int := [p.Cells, (p.Windows.length : Int)] ++ p.Windows.flatMap M.wn
def M.cn (c : Channel) : List Int := [c.Kind, c.From, c.To, c.Size]
def M.sn (x : Slot) : List Int := [x.Who + 1, x.Ticks]
/-- The numbers that describe a setup. -/
def M.nums (s : Setup) : List Int :=
  ((((([(s.Parts.length : Int)] ++ s.Parts.flatMap M.pn) ++ [(s.Channels.length : Int)]) ++ s.Channels.flatMap M.cn) ++ [(s.Slots.length : Int)]) ++ s.Slots.flatMap M.sn)
noncomputable def M.numbers (s : Setup) : List Int := if M.setv s then M.nums s else []
theorem flatMap_take {α β : Type} (f : α → List β) {xs : List α} {k : Nat} {x : α} (h : xs[k]? = some x) : (xs.take (k + 1)).flatMap f = (xs.take k).flatMap f ++ f x := by
  rw [take_snoc h, List.flatMap_append]; simp
theorem slices_Clip_int (v : Value) (xs : List Int) (w : World) (a : Option Addr) (c : Nat) (hv : v = .slice a xs.length c) (hc : xs.length ≤ c) (hl : c ≤ 9223372036854775807) :
    Calls Try.prog 35 #[v] w fun e w' => e = .returned (.slice a xs.length xs.length) ∧ w = w' := by
  subst hv
  go_enter Try.func35, Try.ntmps35
  go_wp2
  go_ret
  exact ⟨rfl, rfl⟩
theorem box3 {w w1 : World} {c0 c1 c2 : Value} {T : TypeId} (he : Ext (w.alloc (.cells #[c0, c1, c2] T)) w1) :
    w.heap.size < w1.heap.size ∧ w1.cell? ⟨w.heap.size, 0, none⟩ = some c0 ∧ w1.cell? ⟨w.heap.size, 1, none⟩ = some c1 ∧ w1.cell? ⟨w.heap.size, 2, none⟩ = some c2 := by
  have hs : w.heap.size < (w.alloc (.cells #[c0, c1, c2] T)).heap.size := by simp
  refine ⟨Nat.lt_of_lt_of_le hs he.sz, ?_, ?_, ?_⟩
  all_goals rw [(bcell he).1 _ _ hs]; simp
theorem M.bit_rng (b : Bool) : rng (M.bit b) := by cases b <;> exact ⟨by decide, by decide⟩
theorem M.setv_parts {s : Setup} (h : M.setv s = true) : s.Parts.length ≤ 5 := by
  simp only [M.setv, M.psv, Bool.and_eq_true, decide_eq_true_eq] at h; exact h.1.1
theorem flat_len {α β : Type} (f : α → List β) (xs : List α) (k B : Nat) (h : ∀ x ∈ xs, (f x).length ≤ B) : ((xs.take k).flatMap f).length ≤ xs.length * B := by
  have h2 : ∀ ys : List α, (∀ x ∈ ys, (f x).length ≤ B) → (ys.flatMap f).length ≤ ys.length * B := by
    intro ys
    induction ys with
    | nil => intro _; simp
    | cons y ys ih =>
      intro hy
      have := ih (fun x hx => hy x (List.mem_cons_of_mem _ hx))
      have := hy y (List.mem_cons_self ..)
      rw [List.flatMap_cons, List.length_append, List.length_cons, Nat.succ_mul]; omega
  refine Nat.le_trans (h2 _ fun x hx => h x (List.mem_of_mem_take hx)) (Nat.mul_le_mul_right _ ?_)
  rw [List.length_take]; omega
theorem M.setv_chans {s : Setup} (h : M.setv s = true) : s.Channels.length ≤ 8 := by
  simp only [M.setv, M.csv, Bool.and_eq_true, decide_eq_true_eq] at h; exact h.2.1.2.1
theorem M.setv_slots {s : Setup} (h : M.setv s = true) : s.Slots.length ≤ 12 := by
  simp only [M.setv, M.ssv, Bool.and_eq_true, M.inn_iff] at h; omega
theorem M.setv_who {s : Setup} (h : M.setv s = true) {x : Slot} (hx : x ∈ s.Slots) : -1 ≤ x.Who ∧ x.Who ≤ 5 := by
  have hp := M.setv_parts h
  simp only [M.setv, M.ssv, Bool.and_eq_true, List.all_eq_true, M.slv, M.inn_iff] at h
  have := h.2.2.2.2 x hx; omega
theorem M.setv_wsv {s : Setup} (h : M.setv s = true) {x : Part} (hx : x ∈ s.Parts) : M.wsv x.Windows = true ∧ M.inn x.Cells 1 8 = true := by
  simp only [M.setv, M.psv, Bool.and_eq_true, List.all_eq_true] at h
  have := h.1.2 x hx
  simpa only [M.pv1, Bool.and_eq_true] using this
theorem M.setv_win {s : Setup} (h : M.setv s = true) {k : Nat} {x : Part} (hx : s.Parts[k]? = some x) : x.Windows.length ≤ 12 := by
  have := (M.setv_wsv h (List.mem_of_getElem? hx)).1
  simp only [M.wsv, Bool.and_eq_true, decide_eq_true_eq] at this; exact this.1
theorem M.pn_len {s : Setup} (h : M.setv s = true) {x : Part} (hx : x ∈ s.Parts) : (M.pn x).length ≤ 38 := by
  obtain ⟨k, hk⟩ := List.getElem?_of_mem hx
  have h1 := M.setv_win h hk
  have h2 := flat_len M.wn x.Windows x.Windows.length 3 (fun y _ => by simp [M.wn])
  rw [List.take_length] at h2
  simp only [M.pn, List.length_append, List.length_cons, List.length_nil]; omega
end Sk

namespace Sk
open Go Go.Proofs Go.RowKit
set_option maxHeartbeats 400000
set_option maxRecDepth 100000
set_option linter.unusedVariables false
set_option linter.unusedSimpArgs false
def M.PV (p : List (List Bool)) (n : Int) : Prop := (p.length : Int) = n ∧ 0 ≤ n ∧ n ≤ 5 ∧ ∀ (j : Nat) (r : List Bool), p[j]? = some r → ((r : List Bool).length : Int) = n ∧ r[j]? = some true
noncomputable def M.pv (p : List (List Bool)) (n : Int) : Bool := Bo (M.PV p n)
theorem specPolicyValid (v : Value) (p : List (List Bool)) (n : Int) (w : World) (h : Rs w v p) :
   Calls Try.prog 56 #[v, .int .i64 n] w fun e w' => e = .returned (.bool (M.pv p n)) ∧ Qt w w' := by
  obtain ⟨a, c, rfl, hl⟩ := h.form
  have H := Lib.hid h
  clear h
  by_cases h1 : (p.length : Int) = n ∧ 0 ≤ n ∧ n ≤ 5
  · obtain ⟨rfl, h2, h3⟩ := h1
    have hin := M.inn_t h2 h3
    go_enter Try.func56, Try.ntmps56
    go_wp2_with (go_at_call 45; refine (spec_In _ _ _ _).mono ?_; rintro e w' ⟨rfl, rfl⟩)
    go_loopw [5] (fun i wr => ∃ k : Nat, k ≤ p.length ∧ i = .int .i64 k ∧ (∀ (j : Nat) (r : List Bool), j < k → p[j]? = some r → ((r : List Bool).length : Int) = p.length ∧ r[j]? = some true) ∧ Qt w wr) (fun i _ => p.length - (intOf i).toNat)
    case atStart => exact ⟨0, Nat.zero_le _, rfl, fun _ _ h => by omega, .refl _⟩
    case round =>
      obtain ⟨k, hk, rfl, he, hq⟩ := hrel
      have HE := Lib.hid he
      have HQ := Lib.hid hq
      clear he hq
      by_cases hlt : k < p.length
      · obtain ⟨b, o, x, a', c', rfl, _, hx, hc1, hr, hlx⟩ := (H.out.ext HQ.out.ext).atList k hlt
        clear H
        by_cases hxl : x.length = p.length
        · obtain ⟨b2, o2, y, rfl, _, hy, hc2⟩ := hr.out.atBool k (by omega)
          have HX := Lib.hid hxl
          rw [hxl] at hc1
          clear hxl
          cases y
          · have HN : Hid (M.pv p p.length = false) := Lib.hid (Bo.f fun h => by have := (h.2.2.2 k x hx.out).2; rw [hy.out] at this; cases this)
            go_wp2
            all_goals go_ret
            all_goals exact ⟨wp_cond_ret HN.out.symm, HQ.out⟩
          · go_wp2
            go_roundw
            case rel =>
              refine ⟨k + 1, by omega, by go_num, fun j r hj hr' => ?_, HQ.out⟩
              by_cases hjk : j = k
              · subst hjk; rw [hx.out] at hr'; cases hr'; exact ⟨by rw [HX.out], hy.out⟩
              · exact HE.out j r (by omega) hr'
            case measure => simp [intOf]; omega
        · have HN : Hid (M.pv p p.length = false) := Lib.hid (Bo.f fun h => by have := (h.2.2.2 k x hx.out).1; omega)
          have hb : decide (x.length = p.length) = false := by simpa using hxl
          go_wp2
          all_goals go_ret
          all_goals exact ⟨wp_cond_ret HN.out.symm, HQ.out⟩
      · have HN : Hid (M.pv p p.length = true) := Lib.hid (Bo.t ⟨rfl, h2, h3, fun j r hr => HE.out j r (by have := lt_of_some hr; omega) hr⟩)
        go_wp2
        go_ret
        exact ⟨wp_cond_ret HN.out.symm, HQ.out⟩
  · have HN : Hid (M.pv p n = false) := Lib.hid (Bo.f fun h => h1 ⟨h.1, h.2.1, h.2.2.1⟩)
    by_cases h2 : (p.length : Int) = n
    · have hin : M.inn n 0 5 = false := M.inn_f fun h => h1 ⟨h2, h⟩
      subst h2
      clear h1
      go_enter Try.func56, Try.ntmps56
      go_wp2_with (go_at_call 45; refine (spec_In _ _ _ _).mono ?_; rintro e w' ⟨rfl, rfl⟩)
      go_ret
      exact ⟨wp_cond_ret HN.out.symm, .refl _⟩
    · have hb : ((p.length : Int) == n) = false := by simpa using h2
      clear h1
      go_enter Try.func56, Try.ntmps56
      go_wp2_with (go_at_call 45; refine (spec_In _ _ _ _).mono ?_; rintro e w' ⟨rfl, rfl⟩)
      all_goals go_ret
      all_goals exact ⟨wp_cond_ret HN.out.symm, .refl _⟩
theorem implPolicyValid (v : Value) (p : List (List Bool)) (n : Int) (w : World) (h : Rs w v p) :
   Calls Try.prog 23 #[v, .int .i64 n] w fun e w' => e = .returned (.bool (M.pv p n)) ∧ Qt w w' := by
  obtain ⟨a, c, rfl, hl⟩ := h.form
  have H := Lib.hid h
  clear h
  by_cases h1 : (p.length : Int) = n ∧ 0 ≤ n ∧ n ≤ 5
  · obtain ⟨rfl, h2, h3⟩ := h1
    have hin := M.inn_t h2 h3
    go_enter Try.func23, Try.ntmps23
    go_wp2_with (go_at_call 53; refine (impl_in _ _ _ _).mono ?_; rintro e w' ⟨rfl, rfl⟩)
    go_loopw [5, 6, 18] (fun _ _ i wr => ∃ k : Nat, k ≤ p.length ∧ i = .int .i64 k ∧ (∀ (j : Nat) (r : List Bool), j < k → p[j]? = some r → (r.length : Int) = p.length ∧ r[j]? = some true) ∧ Qt w wr) (fun _ _ i _ => p.length - (intOf i).toNat)
    case atStart => exact ⟨0, Nat.zero_le _, rfl, fun _ _ h => by omega, .refl _⟩
    case round =>
      obtain ⟨k, hk, rfl, he, hq⟩ := hrel
      have HE := Lib.hid he
      have HQ := Lib.hid hq
      clear he hq
      by_cases hlt : k < p.length
      · obtain ⟨b, o, x, a', c', rfl, _, hx, hc1, hr, hlx⟩ := (H.out.ext HQ.out.ext).atList k hlt
        clear H
        by_cases hxl : x.length = p.length
        · obtain ⟨b2, o2, y, rfl, _, hy, hc2⟩ := hr.out.atBool k (by omega)
          have HX := Lib.hid hxl
          rw [hxl] at hc1
          clear hxl
          cases y
          · have HN : Hid (M.pv p p.length = false) := Lib.hid (Bo.f fun h => by have := (h.2.2.2 k x hx.out).2; rw [hy.out] at this; cases this)
            go_wp2
            all_goals go_ret
            all_goals exact ⟨wp_cond_ret HN.out.symm, HQ.out⟩
          · go_wp2
            go_roundw
            case rel =>
              refine ⟨k + 1, by omega, by go_num, fun j r hj hr' => ?_, HQ.out⟩
              by_cases hjk : j = k
              · subst hjk; rw [hx.out] at hr'; cases hr'; exact ⟨by rw [HX.out], hy.out⟩
              · exact HE.out j r (by omega) hr'
            case measure => simp [intOf]; omega
        · have HN : Hid (M.pv p p.length = false) := Lib.hid (Bo.f fun h => by have := (h.2.2.2 k x hx.out).1; omega)
          have hb : decide (x.length = p.length) = false := by simpa using hxl
          go_wp2
          all_goals go_ret
          all_goals exact ⟨wp_cond_ret HN.out.symm, HQ.out⟩
      · have HN : Hid (M.pv p p.length = true) := Lib.hid (Bo.t ⟨rfl, h2, h3, fun j r hr => HE.out j r (by have := lt_of_some hr; omega) hr⟩)
        go_wp2
        go_ret
        exact ⟨wp_cond_ret HN.out.symm, HQ.out⟩
  · have HN : Hid (M.pv p n = false) := Lib.hid (Bo.f fun h => h1 ⟨h.1, h.2.1, h.2.2.1⟩)
    by_cases h2 : M.inn n 0 5 = true
    · have hb : ((p.length : Int) == n) = false := by simp; intro e; exact h1 ⟨e, M.inn_iff.1 h2⟩
      clear h1
      go_enter Try.func23, Try.ntmps23
      go_wp2_with (go_at_call 53; refine (impl_in _ _ _ _).mono ?_; rintro e w' ⟨rfl, rfl⟩)
      go_ret
      exact ⟨wp_cond_ret HN.out.symm, .refl _⟩
    · rw [Bool.not_eq_true] at h2
      clear h1
      go_enter Try.func23, Try.ntmps23
      go_wp2_with (go_at_call 53; refine (impl_in _ _ _ _).mono ?_; rintro e w' ⟨rfl, rfl⟩)
      all_goals go_ret
      all_goals exact ⟨wp_cond_ret HN.out.symm, .refl _⟩
end Sk

