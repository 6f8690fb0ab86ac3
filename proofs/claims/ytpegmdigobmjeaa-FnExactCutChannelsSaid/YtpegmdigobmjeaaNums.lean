/- Contracts of functions of the given program, and lemmas for them: each theorem states the condition under which it holds. -/
import Derived.Test.YtpegmdigobmjeaaChecked
import Derived.Test.YtpegmdigobmjeaaApp
import Derived.Test.YtpegmdigobmjeaaChan
namespace Sk
open Go Go.Proofs Go.RowKit
set_option maxHeartbeats 400000
set_option maxRecDepth 100000
set_option linter.unusedVariables false
/-- Numbers that lie one behind the other. -/
def CI (w : World) (b : Nat) : Nat → List Int → Prop
  | _, [] => True
  | o, n :: ns => w.cell? ⟨b, o, none⟩ = some (.int .i64 n) ∧ rng n ∧ CI w b (o + 1) ns
theorem CI.row {w : World} {b : Nat} {ns : List Int} : ∀ {o : Nat}, CI w b o ns → Row w b o ns [] := by
  induction ns with
  | nil => intro o _; rfl
  | cons n ns ih =>
    intro o h
    exact ⟨[.int .i64 n], [], [], ⟨rfl, h.2.1, rfl⟩, fun j u hj => by
      cases j with
      | zero => simp at hj; subst hj; exact h.1
      | succ j => simp at hj, rfl, ih h.2.2⟩
theorem rng_of {n : Int} (h1 : -9223372036854775808 ≤ n) (h2 : n ≤ 9223372036854775807) : rng n := ⟨h1, h2⟩
def M.wn (x : Window) : List Int := [x.Base, x.Size, M.bit x.Write]
def M.pn (p : Part) : List Int := [p.Cells, (p.Windows.length : Int)] ++ p.Windows.flatMap M.wn
def M.cn (c : Channel) : List Int := [c.Kind, c.From, c.To, c.Size]
def M.sn (x : Slot) : List Int := [x.Who + 1, x.Ticks]
/-- The numbers that describe a setup. -/
def M.nums (s : Setup) : List Int :=
  ((((([(s.Parts.length : Int)] ++ s.Parts.flatMap M.pn) ++ [(s.Channels.length : Int)]) ++ s.Channels.flatMap M.cn) ++ [(s.Slots.length : Int)]) ++ s.Slots.flatMap M.sn)
noncomputable def M.numbers (s : Setup) : List Int := if M.setv s then M.nums s else []
theorem flatMap_take {α β : Type} (f : α → List β) {xs : List α} {k : Nat} {x : α} (h : xs[k]? = some x) : (xs.take (k + 1)).flatMap f = (xs.take k).flatMap f ++ f x := by
  rw [take_snoc h, List.flatMap_append]; simp
theorem box3 {w w1 : World} {c0 c1 c2 : Value} {T : TypeId} (he : Ext (w.alloc (.cells #[c0, c1, c2] T)) w1) :
    w.heap.size < w1.heap.size ∧ w1.cell? ⟨w.heap.size, 0, none⟩ = some c0 ∧ w1.cell? ⟨w.heap.size, 1, none⟩ = some c1 ∧ w1.cell? ⟨w.heap.size, 2, none⟩ = some c2 := by
  have hs : w.heap.size < (w.alloc (.cells #[c0, c1, c2] T)).heap.size := by simp
  refine ⟨Nat.lt_of_lt_of_le hs he.sz, ?_, ?_, ?_⟩
  all_goals rw [(bcell he).1 _ _ hs]; simp
theorem M.bit_rng (b : Bool) : rng (M.bit b) := by cases b <;> exact ⟨by decide, by decide⟩
theorem M.setv_parts {s : Setup} (h : M.setv s = true) : s.Parts.length ≤ 5 := by
  simp only [M.setv, M.psv, Bool.and_eq_true, decide_eq_true_eq] at h; exact h.1.1
theorem flat_len {α β : Type} (f : α → List β) (xs : List α) (k B : Nat) (h : ∀ x ∈ xs, (f x).length ≤ B) : ((xs.take k).flatMap f).length ≤ xs.length * B := by
  have h2 : ∀ ys : List α, (∀ x ∈ ys, (f x).length ≤ B) → (ys.flatMap f).length ≤ ys.length * B := by
    intro ys
    induction ys with
    | nil => intro _; simp
    | cons y ys ih =>
      intro hy
      have := ih (fun x hx => hy x (List.mem_cons_of_mem _ hx))
      have := hy y (List.mem_cons_self ..)
      rw [List.flatMap_cons, List.length_append, List.length_cons, Nat.succ_mul]; omega
  refine Nat.le_trans (h2 _ fun x hx => h x (List.mem_of_mem_take hx)) (Nat.mul_le_mul_right _ ?_)
  rw [List.length_take]; omega
theorem M.setv_chans {s : Setup} (h : M.setv s = true) : s.Channels.length ≤ 8 := by
  simp only [M.setv, M.csv, Bool.and_eq_true, decide_eq_true_eq] at h; exact h.2.1.2.1
theorem M.setv_slots {s : Setup} (h : M.setv s = true) : s.Slots.length ≤ 12 := by
  simp only [M.setv, M.ssv, Bool.and_eq_true, M.inn_iff] at h; omega
theorem M.setv_who {s : Setup} (h : M.setv s = true) {x : Slot} (hx : x ∈ s.Slots) : -1 ≤ x.Who ∧ x.Who ≤ 5 := by
  have hp := M.setv_parts h
  simp only [M.setv, M.ssv, Bool.and_eq_true, List.all_eq_true, M.slv, M.inn_iff] at h
  have := h.2.2.2.2 x hx; omega
theorem M.setv_wsv {s : Setup} (h : M.setv s = true) {x : Part} (hx : x ∈ s.Parts) : M.wsv x.Windows = true ∧ M.inn x.Cells 1 8 = true := by
  simp only [M.setv, M.psv, Bool.and_eq_true, List.all_eq_true] at h
  have := h.1.2 x hx
  simpa only [M.pv1, Bool.and_eq_true] using this
theorem M.setv_win {s : Setup} (h : M.setv s = true) {k : Nat} {x : Part} (hx : s.Parts[k]? = some x) : x.Windows.length ≤ 12 := by
  have := (M.setv_wsv h (List.mem_of_getElem? hx)).1
  simp only [M.wsv, Bool.and_eq_true, decide_eq_true_eq] at this; exact this.1
theorem M.pn_len {s : Setup} (h : M.setv s = true) {x : Part} (hx : x ∈ s.Parts) : (M.pn x).length ≤ 38 := by
  obtain ⟨k, hk⟩ := List.getElem?_of_mem hx
  have h1 := M.setv_win h hk
  have h2 := flat_len M.wn x.Windows x.Windows.length 3 (fun y _ => by simp [M.wn])
  rw [List.take_length] at h2
  simp only [M.pn, List.length_append, List.length_cons, List.length_nil]; omega
end Sk

