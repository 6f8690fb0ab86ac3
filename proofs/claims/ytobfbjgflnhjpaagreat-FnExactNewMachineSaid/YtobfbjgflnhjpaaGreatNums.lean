/- Contracts of functions of the given program, and lemmas for them: each theorem states the condition under which it holds. -/
import Derived.Test.YtobfbjgflnhjpaaGreatChecked
import Derived.Test.YtobfbjgflnhjpaaGreatApp
import Derived.Test.YtobfbjgflnhjpaaGreatChan
import Derived.Test.YtobfbjgflnhjpaaGreatRds
namespace Sk
open Go Go.Proofs Go.RowKit
set_option maxHeartbeats 400000
set_option maxRecDepth 100000
set_option linter.unusedVariables false
set_option linter.unusedSimpArgs false
theorem elInt : El Tryz.prog 3 Int := El.of (z := .int .i64 0) (n := 1) (b := 8) (by kernel_rfl) rfl rfl (by decide)
/-- Numbers that lie one behind the other. -/
def CI (w : World) (b : Nat) : Nat → List Int → Prop
  | _, [] => True
  | o, n :: ns => w.cell? ⟨b, o, none⟩ = some (.int .i64 n) ∧ rng n ∧ CI w b (o + 1) ns
theorem CI.row {w : World} {b : Nat} {ns : List Int} : ∀ {o : Nat}, CI w b o ns → Row w b o ns [] := by
  induction ns with
  | nil => intro o _; rfl
  | cons n ns ih =>
    intro o h
    exact ⟨[.int .i64 n], [], [], ⟨rfl, h.2.1, rfl⟩, fun j u hj => by
      cases j with
      | zero => simp at hj; subst hj; exact h.1
      | succ j => simp at hj, rfl, ih h.2.2⟩
theorem rng_of {n : Int} (h1 : -9223372036854775808 ≤ n) (h2 : n ≤ 9223372036854775807) : rng n := ⟨h1, h2⟩
def M.wn (x : Window) : List Int := [x.Base, x.Size, M.bit x.Write]
def M.pn (p : Part) : List Int := [p.Cells, (p.Windows.length : Int)] ++ p.Windows.flatMap M.wn
def M.cn (c : Channel) : List Int := [c.Kind, c.From, c.To, c.Size]
def M.sn (x : Slot) : List Int := [x.Who + 1, x.Ticks]
/-- The numbers that describe a setup. -/
def M.nums (s : Setup) : List Int :=
  ((((([(s.Parts.length : Int)] ++ s.Parts.flatMap M.pn) ++ [(s.Channels.length : Int)]) ++ s.Channels.flatMap M.cn) ++ [(s.Slots.length : Int)]) ++ s.Slots.flatMap M.sn)
noncomputable def M.numbers (s : Setup) : List Int := if M.setv s then M.nums s else []
theorem flatMap_take {α β : Type} (f : α → List β) {xs : List α} {k : Nat} {x : α} (h : xs[k]? = some x) : (xs.take (k + 1)).flatMap f = (xs.take k).flatMap f ++ f x := by
  rw [take_snoc h, List.flatMap_append]; simp
theorem slices_Clip_int (v : Value) (xs : List Int) (w : World) (a : Option Addr) (c : Nat) (hv : v = .slice a xs.length c) (hc : xs.length ≤ c) (hl : c ≤ 9223372036854775807) :
    Calls Tryz.prog 159 #[v] w fun e w' => e = .returned (.slice a xs.length xs.length) ∧ w = w' := by
  subst hv
  go_enter Tryz.func159, Tryz.ntmps159
  go_wp2
  go_ret
  exact ⟨rfl, rfl⟩
theorem box3 {w w1 : World} {c0 c1 c2 : Value} {T : TypeId} (he : Ext (w.alloc (.cells #[c0, c1, c2] T)) w1) :
    w.heap.size < w1.heap.size ∧ w1.cell? ⟨w.heap.size, 0, none⟩ = some c0 ∧ w1.cell? ⟨w.heap.size, 1, none⟩ = some c1 ∧ w1.cell? ⟨w.heap.size, 2, none⟩ = some c2 := by
  have hs : w.heap.size < (w.alloc (.cells #[c0, c1, c2] T)).heap.size := by simp
  refine ⟨Nat.lt_of_lt_of_le hs he.sz, ?_, ?_, ?_⟩
  all_goals rw [(bcell he).1 _ _ hs]; simp
theorem M.bit_rng (b : Bool) : rng (M.bit b) := by cases b <;> exact ⟨by decide, by decide⟩
theorem M.setv_parts {s : Setup} (h : M.setv s = true) : s.Parts.length ≤ 5 := by
  simp only [M.setv, M.psv, Bool.and_eq_true, decide_eq_true_eq] at h; exact h.1.1
theorem flat_len {α β : Type} (f : α → List β) (xs : List α) (k B : Nat) (h : ∀ x ∈ xs, (f x).length ≤ B) : ((xs.take k).flatMap f).length ≤ xs.length * B := by
  have h2 : ∀ ys : List α, (∀ x ∈ ys, (f x).length ≤ B) → (ys.flatMap f).length ≤ ys.length * B := by
    intro ys
    induction ys with
    | nil => intro _; simp
    | cons y ys ih =>
      intro hy
      have := ih (fun x hx => hy x (List.mem_cons_of_mem _ hx))
      have := hy y (List.mem_cons_self ..)
      rw [List.flatMap_cons, List.length_append, List.length_cons, Nat.succ_mul]; omega
  refine Nat.le_trans (h2 _ fun x hx => h x (List.mem_of_mem_take hx)) (Nat.mul_le_mul_right _ ?_)
  rw [List.length_take]; omega
theorem M.setv_chans {s : Setup} (h : M.setv s = true) : s.Channels.length ≤ 8 := by
  simp only [M.setv, M.csv, Bool.and_eq_true, decide_eq_true_eq] at h; exact h.2.1.2.1
theorem M.setv_slots {s : Setup} (h : M.setv s = true) : s.Slots.length ≤ 12 := by
  simp only [M.setv, M.ssv, Bool.and_eq_true, M.inn_iff] at h; omega
theorem M.setv_who {s : Setup} (h : M.setv s = true) {x : Slot} (hx : x ∈ s.Slots) : -1 ≤ x.Who ∧ x.Who ≤ 5 := by
  have hp := M.setv_parts h
  simp only [M.setv, M.ssv, Bool.and_eq_true, List.all_eq_true, M.slv, M.inn_iff] at h
  have := h.2.2.2.2 x hx; omega
theorem M.setv_wsv {s : Setup} (h : M.setv s = true) {x : Part} (hx : x ∈ s.Parts) : M.wsv x.Windows = true ∧ M.inn x.Cells 1 8 = true := by
  simp only [M.setv, M.psv, Bool.and_eq_true, List.all_eq_true] at h
  have := h.1.2 x hx
  simpa only [M.pv1, Bool.and_eq_true] using this
theorem M.setv_win {s : Setup} (h : M.setv s = true) {k : Nat} {x : Part} (hx : s.Parts[k]? = some x) : x.Windows.length ≤ 12 := by
  have := (M.setv_wsv h (List.mem_of_getElem? hx)).1
  simp only [M.wsv, Bool.and_eq_true, decide_eq_true_eq] at this; exact this.1
theorem M.pn_len {s : Setup} (h : M.setv s = true) {x : Part} (hx : x ∈ s.Parts) : (M.pn x).length ≤ 38 := by
  obtain ⟨k, hk⟩ := List.getElem?_of_mem hx
  have h1 := M.setv_win h hk
  have h2 := flat_len M.wn x.Windows x.Windows.length 3 (fun y _ => by simp [M.wn])
  rw [List.take_length] at h2
  simp only [M.pn, List.length_append, List.length_cons, List.length_nil]; omega
end Sk

namespace Sk
open Go Go.Proofs Go.RowKit
set_option maxHeartbeats 400000
set_option maxRecDepth 100000
set_option linter.unusedVariables false
set_option linter.unusedSimpArgs false
def M.PV (p : List (List Bool)) (n : Int) : Prop := (p.length : Int) = n ∧ 0 ≤ n ∧ n ≤ 5 ∧ ∀ (j : Nat) (r : List Bool), p[j]? = some r → ((r : List Bool).length : Int) = n ∧ r[j]? = some true
noncomputable def M.pv (p : List (List Bool)) (n : Int) : Bool := Bo (M.PV p n)
end Sk

namespace Sk
open Go Go.Proofs Go.RowKit
set_option maxHeartbeats 400000
set_option maxRecDepth 100000
set_option linter.unusedVariables false
set_option linter.unusedSimpArgs false
/-- A struct's value of one's own. -/
def Ov {α : Type} [GT α] (L : Nat) (w : World) (v : Value) (x : α) : Prop := ∃ cs F, v = .agg cs.toArray ∧ GT.enc w cs x F ∧ Own L w F
theorem Ov.rv {α : Type} [GT α] {L : Nat} {w : World} {v : Value} {x : α} (h : Ov L w v x) : Rv w v x := by obtain ⟨cs, F, h1, h2, _⟩ := h; exact ⟨cs, F, h1, h2⟩
theorem Ov.ow {α : Type} [GT α] {L : Nat} {w : World} {cs : List Value} {x : α} (h : Ov L w (.agg cs.toArray) x) : Ow L w cs x := by
  obtain ⟨cs', F, h1, h2, h3⟩ := h
  have : cs = cs' := by simpa using h1
  subst this
  exact ⟨F, h2, h3⟩
theorem Ov.mono {α : Type} [GT α] {L L' : Nat} {w : World} {v : Value} {x : α} (h : Ov L w v x) (hl : L' ≤ L) : Ov L' w v x := by
  obtain ⟨cs, F, h1, h2, h3⟩ := h
  exact ⟨cs, F, h1, h2, h3.mono hl⟩
/-- The blocks from n on are as they were. -/
def Hi (n : Nat) (w w' : World) : Prop := w'.heap.size = w.heap.size ∧ ∀ b, n ≤ b → w'.heap[b]? = w.heap[b]?
theorem Hi.refl (n : Nat) (w : World) : Hi n w w := ⟨rfl, fun _ _ => rfl⟩
theorem Hi.set {n : Nat} {w w' : World} (h : Hi n w w') {p : Addr} (hp : p.block < n) (u : Value) : Hi n w (w'.setCell p u) :=
  ⟨by rw [← h.1]; simp, fun b hb => by rw [heap_set_ne (by omega)]; exact h.2 b hb⟩
/-- Blocks of one's own between L and M, each once. -/
def Seg (L M : Nat) (w : World) (F : List Nat) : Prop := Own L w F ∧ (∀ b ∈ F, b < M) ∧ L ≤ M
theorem Seg.app {L M N : Nat} {w : World} {F G : List Nat} (h : Seg L M w F) (k : Seg M N w G) : Seg L N w (F ++ G) :=
  ⟨h.1.app k.1 h.2.1 h.2.2, fun b hb => by
    rcases List.mem_append.1 hb with hb | hb
    · exact Nat.lt_of_lt_of_le (h.2.1 b hb) k.2.2
    · exact k.2.1 b hb, Nat.le_trans h.2.2 k.2.2⟩
theorem Seg.ext {L M : Nat} {w w' : World} {F : List Nat} (h : Seg L M w F) (he : Ext w w') : Seg L M w' F := ⟨h.1.ext he, h.2⟩
theorem Seg.hi {L M n : Nat} {w w' : World} {F : List Nat} (h : Seg L M w F) (he : Hi n w w') (hn : n ≤ L) : Seg L M w' F :=
  ⟨⟨h.1.1, fun b hb => ⟨(h.1.2 b hb).1, by
    obtain ⟨cs, T, hk⟩ := (h.1.2 b hb).2
    refine ⟨cs, T, ?_⟩
    unfold Bk at *
    rw [he.2 b (Nat.le_trans hn (h.1.2 b hb).1)]; exact hk⟩⟩, h.2⟩
theorem Seg.wide {L M L' M' : Nat} {w : World} {F : List Nat} (h : Seg L M w F) (hl : L' ≤ L) (hm : M ≤ M') : Seg L' M' w F :=
  ⟨h.1.mono hl, fun b hb => Nat.lt_of_lt_of_le (h.2.1 b hb) hm, Nat.le_trans hl (Nat.le_trans h.2.2 hm)⟩
/-- Cells of one's own, with blocks between L and M. -/
def Oe {α : Type} [GT α] (L M : Nat) (w : World) (cs : List Value) (x : α) : Prop := ∃ F, GT.enc w cs x F ∧ Seg L M w F
theorem Oe.ext {α : Type} [GT α] {L M : Nat} {w w' : World} {cs : List Value} {x : α} (h : Oe L M w cs x) (he : Ext w w') : Oe L M w' cs x := by
  obtain ⟨F, h, o⟩ := h; exact ⟨F, GT.ext h he, o.ext he⟩
theorem Oe.hi {α : Type} [GT α] {L M n : Nat} {w w' : World} {cs : List Value} {x : α} (h : Oe L M w cs x) (he : Hi n w w') (hn : n ≤ L) : Oe L M w' cs x := by
  obtain ⟨F, h, o⟩ := h; exact ⟨F, GT.keep h (fun b hb => he.2 b (Nat.le_trans hn (o.1.2 b hb).1)), o.hi he hn⟩
theorem Oe.wide {α : Type} [GT α] {L M L' M' : Nat} {w : World} {cs : List Value} {x : α} (h : Oe L M w cs x) (hl : L' ≤ L) (hm : M ≤ M') : Oe L' M' w cs x := by
  obtain ⟨F, h, o⟩ := h; exact ⟨F, h, o.wide hl hm⟩
theorem Oe.ofS {α : Type} [GT α] {L L' : Nat} {w : World} {v : Value} {xs : List α} (h : Os L w v xs) (hl : L' ≤ L) (hl2 : L' ≤ w.heap.size) : Oe L' w.heap.size w [v] xs := by
  obtain ⟨F, h, o⟩ := h; exact ⟨F, ⟨v, rfl, h⟩, o.mono hl, h.inh, hl2⟩
theorem Oe.ofV {α : Type} [GT α] {L L' : Nat} {w : World} {cs : List Value} {x : α} (h : Ov L w (.agg cs.toArray) x) (hl : L' ≤ L) (hl2 : L' ≤ w.heap.size) : Oe L' w.heap.size w cs x := by
  obtain ⟨F, h, o⟩ := h.ow; exact ⟨F, h, o.mono hl, GT.inh h, hl2⟩
theorem Oe.ov {α : Type} [GT α] {L M : Nat} {w : World} {cs : List Value} {x : α} (h : Oe L M w cs x) : Ov L w (.agg cs.toArray) x := by
  obtain ⟨F, h, o⟩ := h; exact ⟨cs, F, rfl, h, o.1⟩
theorem Oe.leaf {α : Type} [GT α] {L : Nat} {w : World} {cs : List Value} {x : α} (h : GT.enc w cs x []) : Oe L L w cs x := ⟨[], h, Own.nil _ _, (fun b hb => by cases hb), Nat.le_refl _⟩
theorem Bk.new1 (w : World) (A : Obj) (cs : List Value) (T : TypeId) : Bk ((w.alloc A).alloc (.cells cs.toArray T (0, 0))) (w.heap.size + 1) cs T := by
  have h := Bk.new (w.alloc A) cs T
  rwa [show (w.alloc A).heap.size = w.heap.size + 1 by simp] at h
theorem Bk.new2 (w : World) (A B : Obj) (cs : List Value) (T : TypeId) : Bk (((w.alloc A).alloc B).alloc (.cells cs.toArray T (0, 0))) (w.heap.size + 1 + 1) cs T := by
  have h := Bk.new ((w.alloc A).alloc B) cs T
  rwa [show ((w.alloc A).alloc B).heap.size = w.heap.size + 1 + 1 by simp] at h
end Sk

namespace Sk
open Go Go.Proofs Go.RowKit
set_option maxHeartbeats 400000
set_option maxRecDepth 100000
set_option linter.unusedVariables false
set_option linter.unusedSimpArgs false
theorem Rv.mkPart {w : World} {x : Part} {v0 : Value} (h0 : Rs w v0 x.Windows) (r1 : rng x.Cells) : Rv w (.agg #[v0, .int .i64 x.Cells]) x := by
  obtain ⟨F0, h0⟩ := h0
  exact ⟨_, _, rfl, _, rfl, h0, r1⟩
theorem Oe.mkPart {w : World} {x : Part} {v0 : Value} {M0 M1 : Nat} (p0 : Oe M0 M1 w [v0] x.Windows) (r1 : rng x.Cells) : Oe M0 M1 w [v0, .int .i64 x.Cells] x := by
  obtain ⟨F0, ⟨u0, e0, h0⟩, s0⟩ := p0
  obtain rfl : v0 = u0 := by simpa using e0
  have s := s0
  refine ⟨_, ⟨_, rfl, h0, r1⟩, ?_⟩
  exact s
theorem Rv.mkSetup {w : World} {x : Setup} {v0 v1 v2 : Value} (h0 : Rs w v0 x.Parts) (h1 : Rs w v1 x.Channels) (h2 : Rs w v2 x.Slots)  : Rv w (.agg #[v0, v1, v2]) x := by
  obtain ⟨F0, h0⟩ := h0
  obtain ⟨F1, h1⟩ := h1
  obtain ⟨F2, h2⟩ := h2
  exact ⟨_, _, rfl, _, _, _, _, _, _, rfl, h0, h1, h2, rfl⟩
theorem Oe.mkSetup {w : World} {x : Setup} {v0 v1 v2 : Value} {M0 M1 M2 M3 : Nat} (p0 : Oe M0 M1 w [v0] x.Parts) (p1 : Oe M1 M2 w [v1] x.Channels) (p2 : Oe M2 M3 w [v2] x.Slots) : Oe M0 M3 w [v0, v1, v2] x := by
  obtain ⟨F0, ⟨u0, e0, h0⟩, s0⟩ := p0
  obtain rfl : v0 = u0 := by simpa using e0
  obtain ⟨F1, ⟨u1, e1, h1⟩, s1⟩ := p1
  obtain rfl : v1 = u1 := by simpa using e1
  obtain ⟨F2, ⟨u2, e2, h2⟩, s2⟩ := p2
  obtain rfl : v2 = u2 := by simpa using e2
  have s := s0.app (s1.app (s2))
  refine ⟨_, ⟨_, _, _, _, _, _, rfl, h0, h1, h2, rfl⟩, ?_⟩
  exact s
theorem Rv.mkMachine {w : World} {x : Machine} {v0 v1 v2 v3 v4 v5 : Value} (h0 : Rs w v0 x.Plan.Parts) (h1 : Rs w v1 x.Plan.Channels) (h2 : Rs w v2 x.Plan.Slots) (h3 : Rs w v3 x.Programs) (h4 : Rs w v4 x.Cores) (h5 : Rs w v5 x.Holds) (r6 : rng x.Tick) : Rv w (.agg #[v0, v1, v2, v3, v4, v5, .int .i64 x.Tick]) x := by
  obtain ⟨F0, h0⟩ := h0
  obtain ⟨F1, h1⟩ := h1
  obtain ⟨F2, h2⟩ := h2
  obtain ⟨F3, h3⟩ := h3
  obtain ⟨F4, h4⟩ := h4
  obtain ⟨F5, h5⟩ := h5
  exact ⟨_, _, rfl, _, _, _, _, _, _, _, _, _, _, _, _, rfl, h0, h1, h2, h3, h4, h5, r6, rfl⟩
theorem Oe.mkMachine {w : World} {x : Machine} {v0 v1 v2 v3 v4 v5 : Value} {M0 M1 M2 M3 M4 : Nat} (p0 : Oe M0 M1 w [v0, v1, v2] x.Plan) (p1 : Oe M1 M2 w [v3] x.Programs) (p2 : Oe M2 M3 w [v4] x.Cores) (p3 : Oe M3 M4 w [v5] x.Holds) (r6 : rng x.Tick) : Oe M0 M4 w [v0, v1, v2, v3, v4, v5, .int .i64 x.Tick] x := by
  obtain ⟨FF, ⟨u0, u1, u2, F0, F1, F2, e0, h0, h1, h2, rfl⟩, s0⟩ := p0
  simp only [List.cons.injEq, and_true, true_and] at e0
  obtain ⟨rfl, rfl, rfl⟩ := e0
  obtain ⟨F3, ⟨u3, e3, h3⟩, s1⟩ := p1
  obtain rfl : v3 = u3 := by simpa using e3
  obtain ⟨F4, ⟨u4, e4, h4⟩, s2⟩ := p2
  obtain rfl : v4 = u4 := by simpa using e4
  obtain ⟨F5, ⟨u5, e5, h5⟩, s3⟩ := p3
  obtain rfl : v5 = u5 := by simpa using e5
  have s := s0.app (s1.app (s2.app (s3)))
  refine ⟨_, ⟨_, _, _, _, _, _, _, _, _, _, _, _, rfl, h0, h1, h2, h3, h4, h5, r6, rfl⟩, ?_⟩
  simpa only [List.append_assoc] using s
end Sk

namespace Sk
open Go Go.Proofs Go.RowKit
set_option maxHeartbeats 400000
set_option maxRecDepth 100000
set_option linter.unusedVariables false
set_option linter.unusedSimpArgs false
theorem szWindowS (v : Value) (xs : List Window) (left : Int) (w : World) (h : Rs w v xs) (hup : left ≤ 1048576) (hlo : 0 ≤ left) :
   Calls Tryz.prog 138 #[v, .int .i64 left] w fun e w' => (∃ r, e = .returned (.int .i64 r) ∧ -1 ≤ r ∧ r ≤ left ∧ (0 ≤ r → r = left - GT.tot xs)) ∧ Ext w w' := by
  have ht : GT.tot xs = xs.length := by
    have h0 : ∀ ys : List Window, (ys.map GT.tot).sum = 0 := by intro ys; induction ys with
      | nil => rfl
      | cons y ys ih => rw [List.map_cons, List.sum_cons, ih]; rfl
    show xs.length + (xs.map GT.tot).sum = xs.length
    rw [h0]; rfl
  obtain ⟨a, c, rfl, hl⟩ := h.form
  clear h
  go_enter Tryz.func138, Tryz.ntmps138
  go_wp2
  all_goals go_ret
  · exact ⟨⟨-1, rfl, by omega, by omega, by omega⟩, Ext.refl _⟩
  · exact ⟨⟨_, rfl, by omega, by omega, fun _ => by omega⟩, Ext.refl _⟩
theorem szChannelS (v : Value) (xs : List Channel) (left : Int) (w : World) (h : Rs w v xs) (hup : left ≤ 1048576) (hlo : 0 ≤ left) :
   Calls Tryz.prog 49 #[v, .int .i64 left] w fun e w' => (∃ r, e = .returned (.int .i64 r) ∧ -1 ≤ r ∧ r ≤ left ∧ (0 ≤ r → r = left - GT.tot xs)) ∧ Ext w w' := by
  have ht : GT.tot xs = xs.length := by
    have h0 : ∀ ys : List Channel, (ys.map GT.tot).sum = 0 := by intro ys; induction ys with
      | nil => rfl
      | cons y ys ih => rw [List.map_cons, List.sum_cons, ih]; rfl
    show xs.length + (xs.map GT.tot).sum = xs.length
    rw [h0]; rfl
  obtain ⟨a, c, rfl, hl⟩ := h.form
  clear h
  go_enter Tryz.func49, Tryz.ntmps49
  go_wp2
  all_goals go_ret
  · exact ⟨⟨-1, rfl, by omega, by omega, by omega⟩, Ext.refl _⟩
  · exact ⟨⟨_, rfl, by omega, by omega, fun _ => by omega⟩, Ext.refl _⟩
theorem szSlotS (v : Value) (xs : List Slot) (left : Int) (w : World) (h : Rs w v xs) (hup : left ≤ 1048576) (hlo : 0 ≤ left) :
   Calls Tryz.prog 50 #[v, .int .i64 left] w fun e w' => (∃ r, e = .returned (.int .i64 r) ∧ -1 ≤ r ∧ r ≤ left ∧ (0 ≤ r → r = left - GT.tot xs)) ∧ Ext w w' := by
  have ht : GT.tot xs = xs.length := by
    have h0 : ∀ ys : List Slot, (ys.map GT.tot).sum = 0 := by intro ys; induction ys with
      | nil => rfl
      | cons y ys ih => rw [List.map_cons, List.sum_cons, ih]; rfl
    show xs.length + (xs.map GT.tot).sum = xs.length
    rw [h0]; rfl
  obtain ⟨a, c, rfl, hl⟩ := h.form
  clear h
  go_enter Tryz.func50, Tryz.ntmps50
  go_wp2
  all_goals go_ret
  · exact ⟨⟨-1, rfl, by omega, by omega, by omega⟩, Ext.refl _⟩
  · exact ⟨⟨_, rfl, by omega, by omega, fun _ => by omega⟩, Ext.refl _⟩
theorem szOrderS (v : Value) (xs : List Order) (left : Int) (w : World) (h : Rs w v xs) (hup : left ≤ 1048576) (hlo : 0 ≤ left) :
   Calls Tryz.prog 51 #[v, .int .i64 left] w fun e w' => (∃ r, e = .returned (.int .i64 r) ∧ -1 ≤ r ∧ r ≤ left ∧ (0 ≤ r → r = left - GT.tot xs)) ∧ Ext w w' := by
  have ht : GT.tot xs = xs.length := by
    have h0 : ∀ ys : List Order, (ys.map GT.tot).sum = 0 := by intro ys; induction ys with
      | nil => rfl
      | cons y ys ih => rw [List.map_cons, List.sum_cons, ih]; rfl
    show xs.length + (xs.map GT.tot).sum = xs.length
    rw [h0]; rfl
  obtain ⟨a, c, rfl, hl⟩ := h.form
  clear h
  go_enter Tryz.func51, Tryz.ntmps51
  go_wp2
  all_goals go_ret
  · exact ⟨⟨-1, rfl, by omega, by omega, by omega⟩, Ext.refl _⟩
  · exact ⟨⟨_, rfl, by omega, by omega, fun _ => by omega⟩, Ext.refl _⟩
theorem szOrderSS (v : Value) (xs : List (List Order)) (left : Int) (w : World) (h : Rs w v xs) (hup : left ≤ 1048576) (hlo : 0 ≤ left) :
   Calls Tryz.prog 13 #[v, .int .i64 left] w fun e w' => (∃ r, e = .returned (.int .i64 r) ∧ -1 ≤ r ∧ r ≤ left ∧ (0 ≤ r → r = left - GT.tot xs)) ∧ Ext w w' := by
  obtain ⟨a, c, rfl, hl⟩ := h.form
  have H := Lib.hid h
  clear h
  by_cases h1 : left - xs.length < 0
  · go_enter Tryz.func13, Tryz.ntmps13
    go_wp2
    go_ret
    exact ⟨⟨-1, rfl, by omega, by omega, by omega⟩, Ext.refl _⟩
  · go_enter Tryz.func13, Tryz.ntmps13
    go_wp2
    go_loopw [1, 5] (fun l i wr => ∃ (k : Nat) (r : Int), k ≤ xs.length ∧ i = .int .i64 k ∧ l = .int .i64 r ∧ 0 ≤ r ∧ r ≤ left ∧ Hid (r = left - xs.length - totK xs k) ∧ Ext w wr) (fun _ i _ => xs.length - (intOf i).toNat)
    case atStart => exact ⟨0, left - xs.length, Nat.zero_le _, by go_num, by go_num, by omega, by omega, Lib.hid (by simp [totK_zero]), Ext.refl _⟩
    case round =>
      obtain ⟨k, r, hk, rfl, rfl, hr0, hr1, HS, he⟩ := hrel
      have HE := Lib.hid he
      clear he
      by_cases hlt : k < xs.length
      · obtain ⟨b, o, x, a', c', rfl, _, hx1, hc1, HR, hl'⟩ := (H.out.ext HE.out).atList k hlt
        clear H
        go_wp2_with fail
        refine (szOrderS _ _ _ _ HR.out (by omega) (by omega)).mono ?_
        rintro e w1 ⟨⟨r', rfl, hn, hu, hr3⟩, he⟩
        have HR3 := Lib.hid hr3
        have HE2 := Lib.hid (HE.out.tr he)
        clear hr3 he
        by_cases hneg : r' < 0
        · go_wp2
          go_ret
          exact ⟨⟨-1, rfl, by omega, by omega, by omega⟩, HE2.out⟩
        · go_wp2
          go_roundw
          case rel =>
            refine ⟨k + 1, _, by omega, by go_num, rfl, by omega, by omega, Lib.hid ?_, HE2.out⟩
            have h1 := HR3.out (by omega)
            have h2 := HS.out
            have h3 := totK_succ hx1.out
            omega
          case measure => simp [intOf]; omega
      · obtain rfl : k = xs.length := by omega
        go_wp2
        go_ret
        exact ⟨⟨r, rfl, by omega, by omega, fun _ => by have h1 := HS.out; have h2 := totK_all xs; omega⟩, HE.out⟩
theorem szPart (v : Value) (x : Part) (left : Int) (w : World) (h : Rv w v x) (hup : left ≤ 1048576) (hlo : 0 ≤ left) :
   Calls Tryz.prog 96 #[v, .int .i64 left] w fun e w' => (∃ r, e = .returned (.int .i64 r) ∧ -1 ≤ r ∧ r ≤ left ∧ (0 ≤ r → r = left - GT.tot x)) ∧ Ext w w' := by
  have ht : Hid (GT.tot x = GT.tot x.Windows + GT.tot x.Cells) := Lib.hid rfl
  have z_Cells : GT.tot x.Cells = 0 := rfl
  obtain ⟨a0, c0, rfl, r1, h0, l0⟩ := h.openPart
  clear h
  have E0 := Lib.hid ((Ext.refl w).alloc (.cells #[.slice a0 x.Windows.length c0, .int .i64 x.Cells] 147))
  have X0 := Lib.hid (Ext.refl (w.alloc (.cells #[.slice a0 x.Windows.length c0, .int .i64 x.Cells] 147)))
  go_enter Tryz.func96, Tryz.ntmps96
  go_wp2_with fail
  refine (szWindowS _ _ _ _ (h0.out.ext E0.out) (by omega) (by omega)).mono ?_
  rintro e w1 ⟨⟨s0, rfl, n0, u0, t0⟩, he⟩
  have R0 := Lib.hid t0
  have E1 := Lib.hid (E0.out.tr he)
  have X1 := Lib.hid (X0.out.tr he)
  obtain ⟨hcb0, hfb0⟩ := bcell X1.out
  clear t0 he
  by_cases g0 : s0 < 0
  · go_wp2
    go_ret
    exact ⟨⟨-1, rfl, by omega, by omega, by omega⟩, E1.out⟩
  · go_wp2
    go_ret
    exact ⟨⟨_, rfl, by omega, by omega, fun _ => by have q0 := R0.out (by omega); have q := ht.out; omega⟩, E1.out⟩
theorem szPartS (v : Value) (xs : List Part) (left : Int) (w : World) (h : Rs w v xs) (hup : left ≤ 1048576) (hlo : 0 ≤ left) :
   Calls Tryz.prog 48 #[v, .int .i64 left] w fun e w' => (∃ r, e = .returned (.int .i64 r) ∧ -1 ≤ r ∧ r ≤ left ∧ (0 ≤ r → r = left - GT.tot xs)) ∧ Ext w w' := by
  obtain ⟨a, c, rfl, hl⟩ := h.form
  have H := Lib.hid h
  clear h
  by_cases h1 : left - xs.length < 0
  · go_enter Tryz.func48, Tryz.ntmps48
    go_wp2
    go_ret
    exact ⟨⟨-1, rfl, by omega, by omega, by omega⟩, Ext.refl _⟩
  · go_enter Tryz.func48, Tryz.ntmps48
    go_wp2
    go_loopw [1, 5] (fun l i wr => ∃ (k : Nat) (r : Int), k ≤ xs.length ∧ i = .int .i64 k ∧ l = .int .i64 r ∧ 0 ≤ r ∧ r ≤ left ∧ Hid (r = left - xs.length - totK xs k) ∧ Ext w wr) (fun _ i _ => xs.length - (intOf i).toNat)
    case atStart => exact ⟨0, left - xs.length, Nat.zero_le _, by go_num, by go_num, by omega, by omega, Lib.hid (by simp [totK_zero]), Ext.refl _⟩
    case round =>
      obtain ⟨k, r, hk, rfl, rfl, hr0, hr1, HS, he⟩ := hrel
      have HE := Lib.hid he
      clear he
      by_cases hlt : k < xs.length
      · obtain ⟨b, o, x, a0, c0, rfl, _, hx1, hc0, hc1, g1, h0, l0, HR⟩ := (H.out.ext HE.out).atPart k hlt
        clear H
        go_wp2_with fail
        refine (szPart _ _ _ _ HR.out (by omega) (by omega)).mono ?_
        rintro e w1 ⟨⟨r', rfl, hn, hu, hr3⟩, he⟩
        have HR3 := Lib.hid hr3
        have HE2 := Lib.hid (HE.out.tr he)
        clear hr3 he
        by_cases hneg : r' < 0
        · go_wp2
          go_ret
          exact ⟨⟨-1, rfl, by omega, by omega, by omega⟩, HE2.out⟩
        · go_wp2
          go_roundw
          case rel =>
            refine ⟨k + 1, _, by omega, by go_num, rfl, by omega, by omega, Lib.hid ?_, HE2.out⟩
            have h1 := HR3.out (by omega)
            have h2 := HS.out
            have h3 := totK_succ hx1.out
            omega
          case measure => simp [intOf]; omega
      · obtain rfl : k = xs.length := by omega
        go_wp2
        go_ret
        exact ⟨⟨r, rfl, by omega, by omega, fun _ => by have h1 := HS.out; have h2 := totK_all xs; omega⟩, HE.out⟩
theorem szSetup (v : Value) (x : Setup) (left : Int) (w : World) (h : Rv w v x) (hup : left ≤ 1048576) (hlo : 0 ≤ left) :
   Calls Tryz.prog 12 #[v, .int .i64 left] w fun e w' => (∃ r, e = .returned (.int .i64 r) ∧ -1 ≤ r ∧ r ≤ left ∧ (0 ≤ r → r = left - GT.tot x)) ∧ Ext w w' := by
  have ht : Hid (GT.tot x = GT.tot x.Parts + GT.tot x.Channels + GT.tot x.Slots) := Lib.hid rfl
  obtain ⟨a0, c0, a1, c1, a2, c2, rfl, h0, l0, h1, l1, h2, l2⟩ := h.openSetup
  clear h
  have E0 := Lib.hid ((Ext.refl w).alloc (.cells #[.slice a0 x.Parts.length c0, .slice a1 x.Channels.length c1, .slice a2 x.Slots.length c2] 39))
  have X0 := Lib.hid (Ext.refl (w.alloc (.cells #[.slice a0 x.Parts.length c0, .slice a1 x.Channels.length c1, .slice a2 x.Slots.length c2] 39)))
  go_enter Tryz.func12, Tryz.ntmps12
  go_wp2_with fail
  refine (szPartS _ _ _ _ (h0.out.ext E0.out) (by omega) (by omega)).mono ?_
  rintro e w1 ⟨⟨s0, rfl, n0, u0, t0⟩, he⟩
  have R0 := Lib.hid t0
  have E1 := Lib.hid (E0.out.tr he)
  have X1 := Lib.hid (X0.out.tr he)
  obtain ⟨hcb0, hfb0⟩ := bcell X1.out
  clear t0 he
  by_cases g0 : s0 < 0
  · go_wp2
    go_ret
    exact ⟨⟨-1, rfl, by omega, by omega, by omega⟩, E1.out⟩
  · skip
    go_wp2_with fail
    refine (szChannelS _ _ _ _ (h1.out.ext E1.out) (by omega) (by omega)).mono ?_
    rintro e w2 ⟨⟨s1, rfl, n1, u1, t1⟩, he⟩
    have R1 := Lib.hid t1
    have E2 := Lib.hid (E1.out.tr he)
    have X2 := Lib.hid (X1.out.tr he)
    clear hcb0 hfb0
    obtain ⟨hcb1, hfb1⟩ := bcell X2.out
    clear t1 he
    by_cases g1 : s1 < 0
    · go_wp2
      go_ret
      exact ⟨⟨-1, rfl, by omega, by omega, by omega⟩, E2.out⟩
    · skip
      go_wp2_with fail
      refine (szSlotS _ _ _ _ (h2.out.ext E2.out) (by omega) (by omega)).mono ?_
      rintro e w3 ⟨⟨s2, rfl, n2, u2, t2⟩, he⟩
      have R2 := Lib.hid t2
      have E3 := Lib.hid (E2.out.tr he)
      have X3 := Lib.hid (X2.out.tr he)
      clear hcb1 hfb1
      obtain ⟨hcb2, hfb2⟩ := bcell X3.out
      clear t2 he
      by_cases g2 : s2 < 0
      · go_wp2
        go_ret
        exact ⟨⟨-1, rfl, by omega, by omega, by omega⟩, E3.out⟩
      · go_wp2
        go_ret
        exact ⟨⟨_, rfl, by omega, by omega, fun _ => by have q0 := R0.out (by omega); have q1 := R1.out (by omega); have q2 := R2.out (by omega); have q := ht.out; omega⟩, E3.out⟩
end Sk

