/- Contracts of functions of the given program, and lemmas for them: each theorem states the condition under which it holds. -/
import Derived.Test.YtfenbcicnfboeaaGreatChecked
import Derived.Test.YtfenbcicnfboeaaGreatApp
import Derived.Test.YtfenbcicnfboeaaGreatChan
import Derived.Test.YtfenbcicnfboeaaGreatScal
namespace Sk
open Go Go.Proofs Go.RowKit
set_option maxHeartbeats 400000
set_option maxRecDepth 100000
set_option linter.unusedVariables false
set_option linter.unusedSimpArgs false
theorem elInt : El Tryz.prog 3 Int := El.of (z := .int .i64 0) (n := 1) (b := 8) (by kernel_rfl) rfl rfl (by decide)
theorem slices_Clip_int (v : Value) (xs : List Int) (w : World) (a : Option Addr) (c : Nat) (hv : v = .slice a xs.length c) (hc : xs.length ≤ c) (hl : c ≤ 9223372036854775807) :
  Calls Tryz.prog 145 #[v] w fun e w' => e = .returned (.slice a xs.length xs.length) ∧ w = w' := by
 subst hv
 go_enter Tryz.func145, Tryz.ntmps145
 go_wp2
 go_ret
 exact ⟨rfl, rfl⟩
theorem M.setv_parts {s : Setup} (h : M.setv s = true) : s.Parts.length ≤ 5 := by
 simp only [M.setv, M.psv, Bool.and_eq_true, decide_eq_true_eq] at h; exact h.1.1
theorem M.setv_chans {s : Setup} (h : M.setv s = true) : s.Channels.length ≤ 8 := by
 simp only [M.setv, M.csv, Bool.and_eq_true, decide_eq_true_eq] at h; exact h.2.1.2.1
theorem M.setv_slots {s : Setup} (h : M.setv s = true) : s.Slots.length ≤ 12 := by
 simp only [M.setv, M.ssv, Bool.and_eq_true, M.inn_iff] at h; omega
theorem M.setv_wsv {s : Setup} (h : M.setv s = true) {x : Part} (hx : x ∈ s.Parts) : M.wsv x.Windows = true ∧ M.inn x.Cells 1 8 = true := by
 simp only [M.setv, M.psv, Bool.and_eq_true, List.all_eq_true] at h
 have := h.1.2 x hx
 simpa only [M.pv1, Bool.and_eq_true] using this
theorem M.setv_win {s : Setup} (h : M.setv s = true) {k : Nat} {x : Part} (hx : s.Parts[k]? = some x) : x.Windows.length ≤ 12 := by
 have := (M.setv_wsv h (List.mem_of_getElem? hx)).1
 simp only [M.wsv, Bool.and_eq_true, decide_eq_true_eq] at this; exact this.1
end Sk
namespace Sk
open Go Go.Proofs Go.RowKit
set_option maxHeartbeats 400000
set_option maxRecDepth 100000
set_option linter.unusedVariables false
set_option linter.unusedSimpArgs false
/-- A struct's value of one's own. -/
def Ov {α : Type} [GT α] (L : Nat) (w : World) (v : Value) (x : α) : Prop := ∃ cs F, v = .agg cs.toArray ∧ GT.enc w cs x F ∧ Own L w F
theorem Ov.rv {α : Type} [GT α] {L : Nat} {w : World} {v : Value} {x : α} (h : Ov L w v x) : Rv w v x := by obtain ⟨cs, F, h1, h2, _⟩ := h; exact ⟨cs, F, h1, h2⟩
theorem Ov.ow {α : Type} [GT α] {L : Nat} {w : World} {cs : List Value} {x : α} (h : Ov L w (.agg cs.toArray) x) : Ow L w cs x := by
 obtain ⟨cs', F, h1, h2, h3⟩ := h
 have : cs = cs' := by simpa using h1
 subst this
 exact ⟨F, h2, h3⟩
theorem Ov.mono {α : Type} [GT α] {L L' : Nat} {w : World} {v : Value} {x : α} (h : Ov L w v x) (hl : L' ≤ L) : Ov L' w v x := by
 obtain ⟨cs, F, h1, h2, h3⟩ := h
 exact ⟨cs, F, h1, h2, h3.mono hl⟩
/-- The blocks from n on are as they were. -/
def Hi (n : Nat) (w w' : World) : Prop := w'.heap.size = w.heap.size ∧ ∀ b, n ≤ b → w'.heap[b]? = w.heap[b]?
theorem Hi.refl (n : Nat) (w : World) : Hi n w w := ⟨rfl, fun _ _ => rfl⟩
theorem Hi.set {n : Nat} {w w' : World} (h : Hi n w w') {p : Addr} (hp : p.block < n) (u : Value) : Hi n w (w'.setCell p u) :=
 ⟨by rw [← h.1]; simp, fun b hb => by rw [heap_set_ne (by omega)]; exact h.2 b hb⟩
/-- Blocks of one's own between L and M, each once. -/
def Seg (L M : Nat) (w : World) (F : List Nat) : Prop := Own L w F ∧ (∀ b ∈ F, b < M) ∧ L ≤ M
theorem Seg.app {L M N : Nat} {w : World} {F G : List Nat} (h : Seg L M w F) (k : Seg M N w G) : Seg L N w (F ++ G) :=
 ⟨h.1.app k.1 h.2.1 h.2.2, fun b hb => by
  rcases List.mem_append.1 hb with hb | hb
  ·exact Nat.lt_of_lt_of_le (h.2.1 b hb) k.2.2
  ·exact k.2.1 b hb, Nat.le_trans h.2.2 k.2.2⟩
theorem Seg.ext {L M : Nat} {w w' : World} {F : List Nat} (h : Seg L M w F) (he : Ext w w') : Seg L M w' F := ⟨h.1.ext he, h.2⟩
theorem Seg.hi {L M n : Nat} {w w' : World} {F : List Nat} (h : Seg L M w F) (he : Hi n w w') (hn : n ≤ L) : Seg L M w' F :=
 ⟨⟨h.1.1, fun b hb => ⟨(h.1.2 b hb).1, by
  obtain ⟨cs, T, hk⟩ := (h.1.2 b hb).2
  refine ⟨cs, T, ?_⟩
  unfold Bk at *
  rw [he.2 b (Nat.le_trans hn (h.1.2 b hb).1)]; exact hk⟩⟩, h.2⟩
/-- Cells of one's own, with blocks between L and M. -/
def Oe {α : Type} [GT α] (L M : Nat) (w : World) (cs : List Value) (x : α) : Prop := ∃ F, GT.enc w cs x F ∧ Seg L M w F
theorem Oe.ext {α : Type} [GT α] {L M : Nat} {w w' : World} {cs : List Value} {x : α} (h : Oe L M w cs x) (he : Ext w w') : Oe L M w' cs x := by
 obtain ⟨F, h, o⟩ := h; exact ⟨F, GT.ext h he, o.ext he⟩
theorem Oe.hi {α : Type} [GT α] {L M n : Nat} {w w' : World} {cs : List Value} {x : α} (h : Oe L M w cs x) (he : Hi n w w') (hn : n ≤ L) : Oe L M w' cs x := by
 obtain ⟨F, h, o⟩ := h; exact ⟨F, GT.keep h (fun b hb => he.2 b (Nat.le_trans hn (o.1.2 b hb).1)), o.hi he hn⟩
theorem Oe.ofS {α : Type} [GT α] {L L' : Nat} {w : World} {v : Value} {xs : List α} (h : Os L w v xs) (hl : L' ≤ L) (hl2 : L' ≤ w.heap.size) : Oe L' w.heap.size w [v] xs := by
 obtain ⟨F, h, o⟩ := h; exact ⟨F, ⟨v, rfl, h⟩, o.mono hl, h.inh, hl2⟩
theorem Oe.ofV {α : Type} [GT α] {L L' : Nat} {w : World} {cs : List Value} {x : α} (h : Ov L w (.agg cs.toArray) x) (hl : L' ≤ L) (hl2 : L' ≤ w.heap.size) : Oe L' w.heap.size w cs x := by
 obtain ⟨F, h, o⟩ := h.ow; exact ⟨F, h, o.mono hl, GT.inh h, hl2⟩
theorem Oe.ov {α : Type} [GT α] {L M : Nat} {w : World} {cs : List Value} {x : α} (h : Oe L M w cs x) : Ov L w (.agg cs.toArray) x := by
 obtain ⟨F, h, o⟩ := h; exact ⟨cs, F, rfl, h, o.1⟩
theorem Bk.new1 (w : World) (A : Obj) (cs : List Value) (T : TypeId) : Bk ((w.alloc A).alloc (.cells cs.toArray T (0, 0))) (w.heap.size + 1) cs T := by
 have h := Bk.new (w.alloc A) cs T
 rwa [show (w.alloc A).heap.size = w.heap.size + 1 by simp] at h
theorem Bk.new2 (w : World) (A B : Obj) (cs : List Value) (T : TypeId) : Bk (((w.alloc A).alloc B).alloc (.cells cs.toArray T (0, 0))) (w.heap.size + 1 + 1) cs T := by
 have h := Bk.new ((w.alloc A).alloc B) cs T
 rwa [show ((w.alloc A).alloc B).heap.size = w.heap.size + 1 + 1 by simp] at h
end Sk
namespace Sk
open Go Go.Proofs Go.RowKit
set_option maxHeartbeats 400000
set_option maxRecDepth 100000
set_option linter.unusedVariables false
set_option linter.unusedSimpArgs false
theorem Oe.mkPart {w : World} {x : Part} {v0 : Value} {M0 M1 : Nat} (p0 : Oe M0 M1 w [v0] x.Windows) (r1 : rng x.Cells) : Oe M0 M1 w [v0, .int .i64 x.Cells] x := by
 obtain ⟨F0, ⟨u0, e0, h0⟩, s0⟩ := p0
 obtain rfl : v0 = u0 := by simpa using e0
 have s := s0
 refine ⟨_, ⟨_, rfl, h0, r1⟩, ?_⟩
 exact s
theorem Rv.mkSetup {w : World} {x : Setup} {v0 v1 v2 : Value} (h0 : Rs w v0 x.Parts) (h1 : Rs w v1 x.Channels) (h2 : Rs w v2 x.Slots)  : Rv w (.agg #[v0, v1, v2]) x := by
 obtain ⟨F0, h0⟩ := h0
 obtain ⟨F1, h1⟩ := h1
 obtain ⟨F2, h2⟩ := h2
 exact ⟨_, _, rfl, _, _, _, _, _, _, rfl, h0, h1, h2, rfl⟩
theorem Oe.mkSetup {w : World} {x : Setup} {v0 v1 v2 : Value} {M0 M1 M2 M3 : Nat} (p0 : Oe M0 M1 w [v0] x.Parts) (p1 : Oe M1 M2 w [v1] x.Channels) (p2 : Oe M2 M3 w [v2] x.Slots) : Oe M0 M3 w [v0, v1, v2] x := by
 obtain ⟨F0, ⟨u0, e0, h0⟩, s0⟩ := p0
 obtain rfl : v0 = u0 := by simpa using e0
 obtain ⟨F1, ⟨u1, e1, h1⟩, s1⟩ := p1
 obtain rfl : v1 = u1 := by simpa using e1
 obtain ⟨F2, ⟨u2, e2, h2⟩, s2⟩ := p2
 obtain rfl : v2 = u2 := by simpa using e2
 have s := s0.app (s1.app (s2))
 refine ⟨_, ⟨_, _, _, _, _, _, rfl, h0, h1, h2, rfl⟩, ?_⟩
 exact s
theorem Oe.mkCore {w : World} {x : Core} {v0 : Value} {M0 M1 : Nat} (p0 : Oe M0 M1 w [v0] x.Cells) (r1 : rng x.At) : Oe M0 M1 w [v0, .int .i64 x.At, .bool x.Stopped] x := by
 obtain ⟨F0, ⟨u0, e0, h0⟩, s0⟩ := p0
 obtain rfl : v0 = u0 := by simpa using e0
 have s := s0
 refine ⟨_, ⟨_, rfl, h0, r1⟩, ?_⟩
 exact s
theorem Oe.mkHold {w : World} {x : Hold} {v0 : Value} {M0 M1 : Nat} (p0 : Oe M0 M1 w [v0] x.Lst) : Oe M0 M1 w [v0] x := by
 obtain ⟨F0, ⟨u0, e0, h0⟩, s0⟩ := p0
 obtain rfl : v0 = u0 := by simpa using e0
 have s := s0
 refine ⟨_, ⟨_, rfl, h0⟩, ?_⟩
 exact s
theorem Rv.mkMachine {w : World} {x : Machine} {v0 v1 v2 v3 v4 v5 : Value} (h0 : Rs w v0 x.Plan.Parts) (h1 : Rs w v1 x.Plan.Channels) (h2 : Rs w v2 x.Plan.Slots) (h3 : Rs w v3 x.Programs) (h4 : Rs w v4 x.Cores) (h5 : Rs w v5 x.Holds) (r6 : rng x.Tick) : Rv w (.agg #[v0, v1, v2, v3, v4, v5, .int .i64 x.Tick]) x := by
 obtain ⟨F0, h0⟩ := h0
 obtain ⟨F1, h1⟩ := h1
 obtain ⟨F2, h2⟩ := h2
 obtain ⟨F3, h3⟩ := h3
 obtain ⟨F4, h4⟩ := h4
 obtain ⟨F5, h5⟩ := h5
 exact ⟨_, _, rfl, _, _, _, _, _, _, _, _, _, _, _, _, rfl, h0, h1, h2, h3, h4, h5, r6, rfl⟩
theorem Oe.mkMachine {w : World} {x : Machine} {v0 v1 v2 v3 v4 v5 : Value} {M0 M1 M2 M3 M4 : Nat} (p0 : Oe M0 M1 w [v0, v1, v2] x.Plan) (p1 : Oe M1 M2 w [v3] x.Programs) (p2 : Oe M2 M3 w [v4] x.Cores) (p3 : Oe M3 M4 w [v5] x.Holds) (r6 : rng x.Tick) : Oe M0 M4 w [v0, v1, v2, v3, v4, v5, .int .i64 x.Tick] x := by
 obtain ⟨FF, ⟨u0, u1, u2, F0, F1, F2, e0, h0, h1, h2, rfl⟩, s0⟩ := p0
 simp only [List.cons.injEq, and_true, true_and] at e0
 obtain ⟨rfl, rfl, rfl⟩ := e0
 obtain ⟨F3, ⟨u3, e3, h3⟩, s1⟩ := p1
 obtain rfl : v3 = u3 := by simpa using e3
 obtain ⟨F4, ⟨u4, e4, h4⟩, s2⟩ := p2
 obtain rfl : v4 = u4 := by simpa using e4
 obtain ⟨F5, ⟨u5, e5, h5⟩, s3⟩ := p3
 obtain rfl : v5 = u5 := by simpa using e5
 have s := s0.app (s1.app (s2.app (s3)))
 refine ⟨_, ⟨_, _, _, _, _, _, _, _, _, _, _, _, rfl, h0, h1, h2, h3, h4, h5, r6, rfl⟩, ?_⟩
 simpa only [List.append_assoc] using s
theorem Oe.mkWatch {w : World} {x : Watch} {v0 v1 v2 v3 v4 v5 v7 : Value} {M0 M1 M2 : Nat} (p0 : Oe M0 M1 w [v0, v1, v2, v3, v4, v5, .int .i64 x.Box.Tick] x.Box) (p1 : Oe M1 M2 w [v7] x.States) : Oe M0 M2 w [v0, v1, v2, v3, v4, v5, .int .i64 x.Box.Tick, v7] x := by
 obtain ⟨FF, ⟨u0, u1, u2, u3, u4, u5, F0, F1, F2, F3, F4, F5, e0, h0, h1, h2, h3, h4, h5, r6, rfl⟩, s0⟩ := p0
 simp only [List.cons.injEq, and_true, true_and] at e0
 obtain ⟨rfl, rfl, rfl, rfl, rfl, rfl⟩ := e0
 obtain ⟨F7, ⟨u7, e7, h7⟩, s1⟩ := p1
 obtain rfl : v7 = u7 := by simpa using e7
 have s := s0.app (s1)
 refine ⟨_, ⟨_, _, _, _, _, _, _, _, _, _, _, _, _, _, rfl, h0, h1, h2, h3, h4, h5, h7, r6, rfl⟩, ?_⟩
 simpa only [List.append_assoc] using s
end Sk
