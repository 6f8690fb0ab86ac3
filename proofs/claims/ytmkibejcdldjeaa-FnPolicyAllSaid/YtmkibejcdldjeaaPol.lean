/- Contracts of functions of the given program, and lemmas for them: each theorem states the condition under which it holds. -/
import Derived.Test.YtmkibejcdldjeaaChecked
import Derived.Test.YtmkibejcdldjeaaApp
import Derived.Test.YtmkibejcdldjeaaScal
namespace Sk
open Go Go.Proofs Go.RowKit
set_option maxHeartbeats 400000
set_option maxRecDepth 100000
set_option linter.unusedVariables false
set_option linter.unusedSimpArgs false
def M.PV (p : List (List Bool)) (n : Int) : Prop := (p.length : Int) = n ∧ 0 ≤ n ∧ n ≤ 5 ∧ ∀ (j : Nat) (r : List Bool), p[j]? = some r → ((r : List Bool).length : Int) = n ∧ r[j]? = some true
noncomputable def M.pv (p : List (List Bool)) (n : Int) : Bool := Bo (M.PV p n)
theorem specPolicyValid (v : Value) (p : List (List Bool)) (n : Int) (w : World) (h : Rs w v p) :
   Calls Try.prog 31 #[v, .int .i64 n] w fun e w' => e = .returned (.bool (M.pv p n)) ∧ Qt w w' := by
  obtain ⟨a, c, rfl, hl⟩ := h.form
  have H := Lib.hid h
  clear h
  by_cases h1 : (p.length : Int) = n ∧ 0 ≤ n ∧ n ≤ 5
  · obtain ⟨rfl, h2, h3⟩ := h1
    have hin := M.inn_t h2 h3
    go_enter Try.func31, Try.ntmps31
    go_wp2_with (go_at_call 61; refine (spec_In _ _ _ _).mono ?_; rintro e w' ⟨rfl, rfl⟩)
    go_loopw [5] (fun i wr => ∃ k : Nat, k ≤ p.length ∧ i = .int .i64 k ∧ (∀ (j : Nat) (r : List Bool), j < k → p[j]? = some r → ((r : List Bool).length : Int) = p.length ∧ r[j]? = some true) ∧ Qt w wr) (fun i _ => p.length - (intOf i).toNat)
    case atStart => exact ⟨0, Nat.zero_le _, rfl, fun _ _ h => by omega, .refl _⟩
    case round =>
      obtain ⟨k, hk, rfl, he, hq⟩ := hrel
      have HE := Lib.hid he
      have HQ := Lib.hid hq
      clear he hq
      by_cases hlt : k < p.length
      · obtain ⟨b, o, x, a', c', rfl, _, hx, hc1, hr, hlx⟩ := (H.out.ext HQ.out.ext).atList k hlt
        clear H
        by_cases hxl : x.length = p.length
        · obtain ⟨b2, o2, y, rfl, _, hy, hc2⟩ := hr.out.atBool k (by omega)
          have HX := Lib.hid hxl
          rw [hxl] at hc1
          clear hxl
          cases y
          · have HN : Hid (M.pv p p.length = false) := Lib.hid (Bo.f fun h => by have := (h.2.2.2 k x hx.out).2; rw [hy.out] at this; cases this)
            go_wp2
            all_goals go_ret
            all_goals exact ⟨wp_cond_ret HN.out.symm, HQ.out⟩
          · go_wp2
            go_roundw
            case rel =>
              refine ⟨k + 1, by omega, by go_num, fun j r hj hr' => ?_, HQ.out⟩
              by_cases hjk : j = k
              · subst hjk; rw [hx.out] at hr'; cases hr'; exact ⟨by rw [HX.out], hy.out⟩
              · exact HE.out j r (by omega) hr'
            case measure => simp [intOf]; omega
        · have HN : Hid (M.pv p p.length = false) := Lib.hid (Bo.f fun h => by have := (h.2.2.2 k x hx.out).1; omega)
          have hb : decide (x.length = p.length) = false := by simpa using hxl
          go_wp2
          all_goals go_ret
          all_goals exact ⟨wp_cond_ret HN.out.symm, HQ.out⟩
      · have HN : Hid (M.pv p p.length = true) := Lib.hid (Bo.t ⟨rfl, h2, h3, fun j r hr => HE.out j r (by have := lt_of_some hr; omega) hr⟩)
        go_wp2
        go_ret
        exact ⟨wp_cond_ret HN.out.symm, HQ.out⟩
  · have HN : Hid (M.pv p n = false) := Lib.hid (Bo.f fun h => h1 ⟨h.1, h.2.1, h.2.2.1⟩)
    by_cases h2 : (p.length : Int) = n
    · have hin : M.inn n 0 5 = false := M.inn_f fun h => h1 ⟨h2, h⟩
      subst h2
      clear h1
      go_enter Try.func31, Try.ntmps31
      go_wp2_with (go_at_call 61; refine (spec_In _ _ _ _).mono ?_; rintro e w' ⟨rfl, rfl⟩)
      go_ret
      exact ⟨wp_cond_ret HN.out.symm, .refl _⟩
    · have hb : ((p.length : Int) == n) = false := by simpa using h2
      clear h1
      go_enter Try.func31, Try.ntmps31
      go_wp2_with (go_at_call 61; refine (spec_In _ _ _ _).mono ?_; rintro e w' ⟨rfl, rfl⟩)
      all_goals go_ret
      all_goals exact ⟨wp_cond_ret HN.out.symm, .refl _⟩
theorem implPolicyValid (v : Value) (p : List (List Bool)) (n : Int) (w : World) (h : Rs w v p) :
   Calls Try.prog 22 #[v, .int .i64 n] w fun e w' => e = .returned (.bool (M.pv p n)) ∧ Qt w w' := by
  obtain ⟨a, c, rfl, hl⟩ := h.form
  have H := Lib.hid h
  clear h
  by_cases h1 : (p.length : Int) = n ∧ 0 ≤ n ∧ n ≤ 5
  · obtain ⟨rfl, h2, h3⟩ := h1
    have hin := M.inn_t h2 h3
    go_enter Try.func22, Try.ntmps22
    go_wp2_with (go_at_call 53; refine (impl_in _ _ _ _).mono ?_; rintro e w' ⟨rfl, rfl⟩)
    go_loopw [5, 6, 18] (fun _ _ i wr => ∃ k : Nat, k ≤ p.length ∧ i = .int .i64 k ∧ (∀ (j : Nat) (r : List Bool), j < k → p[j]? = some r → (r.length : Int) = p.length ∧ r[j]? = some true) ∧ Qt w wr) (fun _ _ i _ => p.length - (intOf i).toNat)
    case atStart => exact ⟨0, Nat.zero_le _, rfl, fun _ _ h => by omega, .refl _⟩
    case round =>
      obtain ⟨k, hk, rfl, he, hq⟩ := hrel
      have HE := Lib.hid he
      have HQ := Lib.hid hq
      clear he hq
      by_cases hlt : k < p.length
      · obtain ⟨b, o, x, a', c', rfl, _, hx, hc1, hr, hlx⟩ := (H.out.ext HQ.out.ext).atList k hlt
        clear H
        by_cases hxl : x.length = p.length
        · obtain ⟨b2, o2, y, rfl, _, hy, hc2⟩ := hr.out.atBool k (by omega)
          have HX := Lib.hid hxl
          rw [hxl] at hc1
          clear hxl
          cases y
          · have HN : Hid (M.pv p p.length = false) := Lib.hid (Bo.f fun h => by have := (h.2.2.2 k x hx.out).2; rw [hy.out] at this; cases this)
            go_wp2
            all_goals go_ret
            all_goals exact ⟨wp_cond_ret HN.out.symm, HQ.out⟩
          · go_wp2
            go_roundw
            case rel =>
              refine ⟨k + 1, by omega, by go_num, fun j r hj hr' => ?_, HQ.out⟩
              by_cases hjk : j = k
              · subst hjk; rw [hx.out] at hr'; cases hr'; exact ⟨by rw [HX.out], hy.out⟩
              · exact HE.out j r (by omega) hr'
            case measure => simp [intOf]; omega
        · have HN : Hid (M.pv p p.length = false) := Lib.hid (Bo.f fun h => by have := (h.2.2.2 k x hx.out).1; omega)
          have hb : decide (x.length = p.length) = false := by simpa using hxl
          go_wp2
          all_goals go_ret
          all_goals exact ⟨wp_cond_ret HN.out.symm, HQ.out⟩
      · have HN : Hid (M.pv p p.length = true) := Lib.hid (Bo.t ⟨rfl, h2, h3, fun j r hr => HE.out j r (by have := lt_of_some hr; omega) hr⟩)
        go_wp2
        go_ret
        exact ⟨wp_cond_ret HN.out.symm, HQ.out⟩
  · have HN : Hid (M.pv p n = false) := Lib.hid (Bo.f fun h => h1 ⟨h.1, h.2.1, h.2.2.1⟩)
    by_cases h2 : M.inn n 0 5 = true
    · have hb : ((p.length : Int) == n) = false := by simp; intro e; exact h1 ⟨e, M.inn_iff.1 h2⟩
      clear h1
      go_enter Try.func22, Try.ntmps22
      go_wp2_with (go_at_call 53; refine (impl_in _ _ _ _).mono ?_; rintro e w' ⟨rfl, rfl⟩)
      go_ret
      exact ⟨wp_cond_ret HN.out.symm, .refl _⟩
    · rw [Bool.not_eq_true] at h2
      clear h1
      go_enter Try.func22, Try.ntmps22
      go_wp2_with (go_at_call 53; refine (impl_in _ _ _ _).mono ?_; rintro e w' ⟨rfl, rfl⟩)
      all_goals go_ret
      all_goals exact ⟨wp_cond_ret HN.out.symm, .refl _⟩
end Sk

namespace Sk
open Go Go.Proofs Go.RowKit
set_option maxHeartbeats 400000
set_option maxRecDepth 100000
set_option linter.unusedVariables false
set_option linter.unusedSimpArgs false
/-- A struct's value of one's own. -/
def Ov {α : Type} [GT α] (L : Nat) (w : World) (v : Value) (x : α) : Prop := ∃ cs F, v = .agg cs.toArray ∧ GT.enc w cs x F ∧ Own L w F
theorem Ov.rv {α : Type} [GT α] {L : Nat} {w : World} {v : Value} {x : α} (h : Ov L w v x) : Rv w v x := by obtain ⟨cs, F, h1, h2, _⟩ := h; exact ⟨cs, F, h1, h2⟩
theorem Ov.ow {α : Type} [GT α] {L : Nat} {w : World} {cs : List Value} {x : α} (h : Ov L w (.agg cs.toArray) x) : Ow L w cs x := by
  obtain ⟨cs', F, h1, h2, h3⟩ := h
  have : cs = cs' := by simpa using h1
  subst this
  exact ⟨F, h2, h3⟩
theorem Ov.mono {α : Type} [GT α] {L L' : Nat} {w : World} {v : Value} {x : α} (h : Ov L w v x) (hl : L' ≤ L) : Ov L' w v x := by
  obtain ⟨cs, F, h1, h2, h3⟩ := h
  exact ⟨cs, F, h1, h2, h3.mono hl⟩
/-- The blocks from n on are as they were. -/
def Hi (n : Nat) (w w' : World) : Prop := w'.heap.size = w.heap.size ∧ ∀ b, n ≤ b → w'.heap[b]? = w.heap[b]?
theorem Hi.refl (n : Nat) (w : World) : Hi n w w := ⟨rfl, fun _ _ => rfl⟩
theorem Hi.set {n : Nat} {w w' : World} (h : Hi n w w') {p : Addr} (hp : p.block < n) (u : Value) : Hi n w (w'.setCell p u) :=
  ⟨by rw [← h.1]; simp, fun b hb => by rw [heap_set_ne (by omega)]; exact h.2 b hb⟩
/-- Blocks of one's own between L and M, each once. -/
def Seg (L M : Nat) (w : World) (F : List Nat) : Prop := Own L w F ∧ (∀ b ∈ F, b < M) ∧ L ≤ M
theorem Seg.app {L M N : Nat} {w : World} {F G : List Nat} (h : Seg L M w F) (k : Seg M N w G) : Seg L N w (F ++ G) :=
  ⟨h.1.app k.1 h.2.1 h.2.2, fun b hb => by
    rcases List.mem_append.1 hb with hb | hb
    · exact Nat.lt_of_lt_of_le (h.2.1 b hb) k.2.2
    · exact k.2.1 b hb, Nat.le_trans h.2.2 k.2.2⟩
theorem Seg.ext {L M : Nat} {w w' : World} {F : List Nat} (h : Seg L M w F) (he : Ext w w') : Seg L M w' F := ⟨h.1.ext he, h.2⟩
theorem Seg.hi {L M n : Nat} {w w' : World} {F : List Nat} (h : Seg L M w F) (he : Hi n w w') (hn : n ≤ L) : Seg L M w' F :=
  ⟨⟨h.1.1, fun b hb => ⟨(h.1.2 b hb).1, by
    obtain ⟨cs, T, hk⟩ := (h.1.2 b hb).2
    refine ⟨cs, T, ?_⟩
    unfold Bk at *
    rw [he.2 b (Nat.le_trans hn (h.1.2 b hb).1)]; exact hk⟩⟩, h.2⟩
theorem Seg.wide {L M L' M' : Nat} {w : World} {F : List Nat} (h : Seg L M w F) (hl : L' ≤ L) (hm : M ≤ M') : Seg L' M' w F :=
  ⟨h.1.mono hl, fun b hb => Nat.lt_of_lt_of_le (h.2.1 b hb) hm, Nat.le_trans hl (Nat.le_trans h.2.2 hm)⟩
/-- Cells of one's own, with blocks between L and M. -/
def Oe {α : Type} [GT α] (L M : Nat) (w : World) (cs : List Value) (x : α) : Prop := ∃ F, GT.enc w cs x F ∧ Seg L M w F
theorem Oe.ext {α : Type} [GT α] {L M : Nat} {w w' : World} {cs : List Value} {x : α} (h : Oe L M w cs x) (he : Ext w w') : Oe L M w' cs x := by
  obtain ⟨F, h, o⟩ := h; exact ⟨F, GT.ext h he, o.ext he⟩
theorem Oe.hi {α : Type} [GT α] {L M n : Nat} {w w' : World} {cs : List Value} {x : α} (h : Oe L M w cs x) (he : Hi n w w') (hn : n ≤ L) : Oe L M w' cs x := by
  obtain ⟨F, h, o⟩ := h; exact ⟨F, GT.keep h (fun b hb => he.2 b (Nat.le_trans hn (o.1.2 b hb).1)), o.hi he hn⟩
theorem Oe.wide {α : Type} [GT α] {L M L' M' : Nat} {w : World} {cs : List Value} {x : α} (h : Oe L M w cs x) (hl : L' ≤ L) (hm : M ≤ M') : Oe L' M' w cs x := by
  obtain ⟨F, h, o⟩ := h; exact ⟨F, h, o.wide hl hm⟩
theorem Oe.ofS {α : Type} [GT α] {L L' : Nat} {w : World} {v : Value} {xs : List α} (h : Os L w v xs) (hl : L' ≤ L) (hl2 : L' ≤ w.heap.size) : Oe L' w.heap.size w [v] xs := by
  obtain ⟨F, h, o⟩ := h; exact ⟨F, ⟨v, rfl, h⟩, o.mono hl, h.inh, hl2⟩
theorem Oe.ofV {α : Type} [GT α] {L L' : Nat} {w : World} {cs : List Value} {x : α} (h : Ov L w (.agg cs.toArray) x) (hl : L' ≤ L) (hl2 : L' ≤ w.heap.size) : Oe L' w.heap.size w cs x := by
  obtain ⟨F, h, o⟩ := h.ow; exact ⟨F, h, o.mono hl, GT.inh h, hl2⟩
theorem Oe.ov {α : Type} [GT α] {L M : Nat} {w : World} {cs : List Value} {x : α} (h : Oe L M w cs x) : Ov L w (.agg cs.toArray) x := by
  obtain ⟨F, h, o⟩ := h; exact ⟨cs, F, rfl, h, o.1⟩
theorem Oe.leaf {α : Type} [GT α] {L : Nat} {w : World} {cs : List Value} {x : α} (h : GT.enc w cs x []) : Oe L L w cs x := ⟨[], h, Own.nil _ _, (fun b hb => by cases hb), Nat.le_refl _⟩
theorem Bk.new1 (w : World) (A : Obj) (cs : List Value) (T : TypeId) : Bk ((w.alloc A).alloc (.cells cs.toArray T (0, 0))) (w.heap.size + 1) cs T := by
  have h := Bk.new (w.alloc A) cs T
  rwa [show (w.alloc A).heap.size = w.heap.size + 1 by simp] at h
theorem Bk.new2 (w : World) (A B : Obj) (cs : List Value) (T : TypeId) : Bk (((w.alloc A).alloc B).alloc (.cells cs.toArray T (0, 0))) (w.heap.size + 1 + 1) cs T := by
  have h := Bk.new ((w.alloc A).alloc B) cs T
  rwa [show ((w.alloc A).alloc B).heap.size = w.heap.size + 1 + 1 by simp] at h
end Sk

namespace Sk
open Go Go.Proofs Go.RowKit
set_option maxHeartbeats 400000
set_option maxRecDepth 100000
set_option linter.unusedVariables false
set_option linter.unusedSimpArgs false
theorem Rv.mkPart {w : World} {x : Part} {v0 : Value} (h0 : Rs w v0 x.Windows) (r1 : rng x.Cells) : Rv w (.agg #[v0, .int .i64 x.Cells]) x := by
  obtain ⟨F0, h0⟩ := h0
  exact ⟨_, _, rfl, _, rfl, h0, r1⟩
theorem Oe.mkPart {w : World} {x : Part} {v0 : Value} {M0 M1 : Nat} (p0 : Oe M0 M1 w [v0] x.Windows) (r1 : rng x.Cells) : Oe M0 M1 w [v0, .int .i64 x.Cells] x := by
  obtain ⟨F0, ⟨u0, e0, h0⟩, s0⟩ := p0
  obtain rfl : v0 = u0 := by simpa using e0
  have s := s0
  refine ⟨_, ⟨_, rfl, h0, r1⟩, ?_⟩
  exact s
theorem Rv.mkSetup {w : World} {x : Setup} {v0 v1 v2 : Value} (h0 : Rs w v0 x.Parts) (h1 : Rs w v1 x.Channels) (h2 : Rs w v2 x.Slots)  : Rv w (.agg #[v0, v1, v2]) x := by
  obtain ⟨F0, h0⟩ := h0
  obtain ⟨F1, h1⟩ := h1
  obtain ⟨F2, h2⟩ := h2
  exact ⟨_, _, rfl, _, _, _, _, _, _, rfl, h0, h1, h2, rfl⟩
theorem Oe.mkSetup {w : World} {x : Setup} {v0 v1 v2 : Value} {M0 M1 M2 M3 : Nat} (p0 : Oe M0 M1 w [v0] x.Parts) (p1 : Oe M1 M2 w [v1] x.Channels) (p2 : Oe M2 M3 w [v2] x.Slots) : Oe M0 M3 w [v0, v1, v2] x := by
  obtain ⟨F0, ⟨u0, e0, h0⟩, s0⟩ := p0
  obtain rfl : v0 = u0 := by simpa using e0
  obtain ⟨F1, ⟨u1, e1, h1⟩, s1⟩ := p1
  obtain rfl : v1 = u1 := by simpa using e1
  obtain ⟨F2, ⟨u2, e2, h2⟩, s2⟩ := p2
  obtain rfl : v2 = u2 := by simpa using e2
  have s := s0.app (s1.app (s2))
  refine ⟨_, ⟨_, _, _, _, _, _, rfl, h0, h1, h2, rfl⟩, ?_⟩
  exact s
end Sk

namespace Sk
open Go Go.Proofs Go.RowKit
set_option maxHeartbeats 400000
set_option maxRecDepth 100000
set_option linter.unusedVariables false
set_option linter.unusedSimpArgs false
theorem info_Bool : (Try.prog.info? 4).map (fun i => (i.zero, i.size, i.bytes)) = some (some (.bool false), 1, 1) := by kernel_rfl
theorem info_Window : (Try.prog.info? 55).map (fun i => (i.zero, i.size, i.bytes)) = some (some (.agg #[.int .i64 0, .int .i64 0, .bool false]), 3, 24) := by kernel_rfl
theorem info_Channel : (Try.prog.info? 38).map (fun i => (i.zero, i.size, i.bytes)) = some (some (.agg #[.int .i64 0, .int .i64 0, .int .i64 0, .int .i64 0]), 4, 32) := by kernel_rfl
theorem info_BoolS : (Try.prog.info? 36).map (fun i => (i.zero, i.size, i.bytes)) = some (some (.slice none 0 0), 1, 24) := by kernel_rfl
end Sk

namespace Sk
open Go Go.Proofs Go.RowKit
set_option maxHeartbeats 400000
set_option maxRecDepth 100000
set_option linter.unusedVariables false
set_option linter.unusedSimpArgs false
theorem rng_mk {n : Int} (h1 : 0 ≤ n) (h2 : n ≤ 1000000000000) : rng n := ⟨by omega, by omega⟩
/-- Only the blocks of F may have turned. -/
def Mo (F : List Nat) (w w' : World) : Prop :=
  w'.heap.size = w.heap.size ∧ Ext {w with heap := #[]} {w' with heap := #[]} ∧ (∀ b, b ∉ F → w'.heap[b]? = w.heap[b]?) ∧ ∀ b, Fz w b → Fz w' b
theorem Mo.refl (F : List Nat) (w : World) : Mo F w w := ⟨rfl, Ext.refl _, fun _ _ => rfl, fun _ h => h⟩
theorem Mo.tr {F : List Nat} {a b c : World} (h : Mo F a b) (k : Mo F b c) : Mo F a c :=
  ⟨k.1.trans h.1, h.2.1.tr k.2.1, fun x hx => (k.2.2.1 x hx).trans (h.2.2.1 x hx), fun x hx => k.2.2.2 x (h.2.2.2 x hx)⟩
theorem Mo.wide {F G : List Nat} {a b : World} (h : Mo F a b) (hF : ∀ x ∈ F, x ∈ G) : Mo G a b :=
  ⟨h.1, h.2.1, fun x hx => h.2.2.1 x (fun hm => hx (hF x hm)), h.2.2.2⟩
theorem Mo.set {F : List Nat} {a b : World} (h : Mo F a b) {p : Addr} (hp : p.block ∈ F) (u : Value) : Mo F a (b.setCell p u) := by
  refine ⟨by rw [← h.1]; simp, ?_, fun x hx => ?_, fun x hx => (h.2.2.2 x hx).set p u⟩
  · obtain ⟨h1, h2, h3, h4, h5⟩ := h.2.1
    exact ⟨h1, h2, h3, h4, h5⟩
  · rw [heap_set_ne (fun e => hx (by rw [e]; exact hp))]; exact h.2.2.1 x hx
theorem Mo.ext {F : List Nat} {W a b : World} (h : Mo F a b) (he : Ext W a) (hF : ∀ x ∈ F, W.heap.size ≤ x) : Ext W b := by
  obtain ⟨h1, h2, h3, h4, h5⟩ := he
  obtain ⟨k1, k2, k3, k4, k5⟩ := h.2.1
  exact ⟨k1.trans h1, k2.trans h2, k3.trans h3, by rw [h.1]; exact h4, fun b hb => (h.2.2.1 b (fun hm => by have := hF b hm; omega)).trans (h5 b hb)⟩
theorem Mo.own {F G : List Nat} {L : Nat} {a b : World} (h : Mo F a b) (ho : Own L a G) : Own L b G := ⟨ho.1, fun x hx => ⟨(ho.2 x hx).1, h.2.2.2 x (ho.2 x hx).2⟩⟩
/-- New blocks apart, only the blocks of F may have turned. -/
def Mx (F : List Nat) (w w' : World) : Prop :=
  Ext {w with heap := #[]} {w' with heap := #[]} ∧ w.heap.size ≤ w'.heap.size ∧ (∀ b, b < w.heap.size → b ∉ F → w'.heap[b]? = w.heap[b]?) ∧ ∀ b, Fz w b → Fz w' b
theorem Mx.ofExt {F : List Nat} {w w' : World} (h : Ext w w') : Mx F w w' :=
  ⟨⟨h.os, h.tape, h.output, Nat.le_refl _, fun b hb => by cases hb⟩, h.sz, fun b hb _ => h.block b hb, fun b hb => hb.ext h⟩
theorem Mx.ofMo {F : List Nat} {w w' : World} (h : Mo F w w') : Mx F w w' := ⟨h.2.1, Nat.le_of_eq h.1.symm, fun b _ hn => h.2.2.1 b hn, h.2.2.2⟩
theorem Mx.tr {F : List Nat} {a b c : World} (h : Mx F a b) (k : Mx F b c) : Mx F a c :=
  ⟨h.1.tr k.1, Nat.le_trans h.2.1 k.2.1, fun x hx hn => (k.2.2.1 x (Nat.lt_of_lt_of_le hx h.2.1) hn).trans (h.2.2.1 x hx hn), fun x hx => k.2.2.2 x (h.2.2.2 x hx)⟩
theorem Mx.wide {F G : List Nat} {a b : World} (h : Mx F a b) (hF : ∀ x ∈ F, x ∈ G) : Mx G a b :=
  ⟨h.1, h.2.1, fun x hx hn => h.2.2.1 x hx (fun hm => hn (hF x hm)), h.2.2.2⟩
theorem Mx.ext {F : List Nat} {W a b : World} (h : Mx F a b) (he : Ext W a) (hF : ∀ x ∈ F, W.heap.size ≤ x) : Ext W b := by
  obtain ⟨h1, h2, h3, h4, h5⟩ := he
  obtain ⟨k1, k2, k3, k4, k5⟩ := h.1
  exact ⟨k1.trans h1, k2.trans h2, k3.trans h3, Nat.le_trans h4 h.2.1, fun b hb => (h.2.2.1 b (Nat.lt_of_lt_of_le hb h4) (fun hm => by have := hF b hm; omega)).trans (h5 b hb)⟩
/-- What lies elsewhere stays. -/
theorem Mx.enc {α : Type} [GT α] {F G : List Nat} {a b : World} {cs : List Value} {x : α} (h : Mx F a b) (k : GT.enc a cs x G) (hd : ∀ y, y ∈ G → y ∈ F → False) : GT.enc b cs x G :=
  GT.keep k fun y hy => h.2.2.1 y (GT.inh k y hy) (fun hf => hd y hy hf)
theorem Mx.sl {α : Type} [GT α] {F G : List Nat} {a b : World} {v : Value} {x : List α} (h : Mx F a b) (k : Sl a v x G) (hd : ∀ y, y ∈ G → y ∈ F → False) : Sl b v x G :=
  k.keep fun y hy => h.2.2.1 y (k.inh y hy) (fun hf => hd y hy hf)
theorem Mx.bk {F : List Nat} {a b : World} {p : Nat} {cs : List Value} {T : TypeId} (h : Mx F a b) (k : Bk a p cs T) (hp : p ∉ F) : Bk b p cs T := by
  have := h.2.2.1 p k.lt hp
  unfold Bk at *; rw [this]; exact k
/-- One element of a slice of one's own, which may be turned. -/
theorem Sl.focus {α : Type} [GT α] {w : World} {a : Option Addr} {n c i : Nat} {xs : List α} {F : List Nat} (h : Sl w (.slice a n c) xs F) (hnd : F.Nodup) (hi : i < xs.length) :
    ∃ b o x F0 cs, a = some ⟨b, o, none⟩ ∧ Hid (xs[i]? = some x) ∧ GT.enc w cs x F0 ∧ At w b (o + i * GT.sz α) cs ∧ Hid ((∀ k ∈ F0, k ∈ F) ∧ b ∉ F0 ∧ b ∈ F ∧ F0.Nodup ∧
      ∀ w' x' cs', (∀ k ∈ F, k ≠ b → k ∉ F0 → w'.heap[k]? = w.heap[k]?) → (∀ o', (o' < o + i * GT.sz α ∨ o + i * GT.sz α + GT.sz α ≤ o') → w'.cell? ⟨b, o', none⟩ = w.cell? ⟨b, o', none⟩) →
        GT.enc w' cs' x' F0 → At w' b (o + i * GT.sz α) cs' → Sl w' (.slice a n c) (xs.set i x') F) := by
  obtain ⟨a', c', he, hl, hc, ⟨rfl, rfl⟩ | ⟨hne, b, o, F', rfl, rfl, hr⟩⟩ := h
  · cases hi
  cases he
  have hsp : xs = xs.take i ++ xs[i] :: xs.drop (i + 1) := by
    rw [List.getElem_cons_drop, List.take_append_drop]
  have hr' := hr
  rw [hsp] at hr'
  obtain ⟨F1, F2, rfl, hr1, hr2⟩ := hr'.split
  have hlen : (xs.take i).length = i := by rw [List.length_take]; omega
  rw [hlen] at hr2
  obtain ⟨cs, F0, F3, henc, hat, rfl, hr3⟩ := hr2
  have hndc := List.nodup_cons.1 hnd
  have hb := hndc.1
  simp only [List.mem_append] at hb
  have hnd2 := hndc.2
  simp only [List.nodup_append, List.mem_append] at hnd2
  obtain ⟨n1, ⟨n0, n3, n03⟩, n1x⟩ := hnd2
  refine ⟨b, o, xs[i], F0, cs, rfl, by unfold Hid; simp [hi], henc, hat, Lib.hid ⟨fun k hk => by simp [hk], fun hk => hb (.inr (.inl hk)), by simp, n0, ?_⟩⟩
  intro w' x' cs' hk hcell henc' hat'
  have hlc := GT.len henc
  have hset : xs.set i x' = xs.take i ++ x' :: xs.drop (i + 1) := by
    rw [List.set_eq_take_append_cons_drop, if_pos hi]
  refine ⟨some ⟨b, o, none⟩, c, by simp, by simpa using hl, hc, .inr ⟨set_ne_nil hne, b, o, _, rfl, rfl, ?_⟩⟩
  rw [hset]
  refine Row.append (hr1.move (fun k hk' => hk k (by simp [hk']) (fun e => hb (.inl (e ▸ hk'))) (fun h0 => n1x k hk' k (.inl h0) rfl)) fun j u hj hu => ?_) ?_
  · rw [hlen] at hj
    rw [hcell _ (by left; omega)]; exact hu
  · rw [hlen]
    refine ⟨cs', F0, F3, henc', hat', rfl, hr3.move (fun k hk' => hk k (by simp [hk']) (fun e => hb (.inr (.inr (e ▸ hk')))) (fun h0 => n03 k h0 k hk' rfl)) fun j u hj hu => ?_⟩
    rw [hcell _ (by right; omega)]; exact hu
theorem mkL_append {α : Type} (mk : α → Int → α) (ct : α → Nat) (xs ys : List α) : ∀ k, mkL mk ct (xs ++ ys) k = mkL mk ct xs k ++ mkL mk ct ys (k + ((xs.map ct).sum : Nat)) := by
  induction xs with
  | nil => intro k; simp [mkL]
  | cons x xs ih =>
    intro k
    simp only [List.cons_append, mkL, ih, List.map_cons, List.sum_cons]
    congr 3
    omega
/-- How many numbers the first elements hold. -/
def ctK {α : Type} [GT α] (xs : List α) (k : Nat) : Nat := ((xs.take k).map GT.ct).sum
theorem ctK_zero {α : Type} [GT α] (xs : List α) : ctK xs 0 = 0 := rfl
theorem ctK_succ {α : Type} [GT α] {xs : List α} {k : Nat} {x : α} (hk : xs[k]? = some x) : ctK xs (k + 1) = ctK xs k + GT.ct x := by
  unfold ctK; rw [take_snoc hk]; simp
theorem ctK_all {α : Type} [GT α] (xs : List α) : ctK xs xs.length = GT.ct xs := by unfold ctK; rw [List.take_length]; rfl
theorem ctK_le {α : Type} [GT α] (xs : List α) (k : Nat) : ctK xs k ≤ GT.ct xs := by
  show ((xs.take k).map GT.ct).sum ≤ (xs.map GT.ct).sum
  have : (xs.map GT.ct).sum = ((xs.take k).map GT.ct).sum + ((xs.drop k).map GT.ct).sum := by
    rw [← List.sum_append, ← List.map_append, List.take_append_drop]
  omega
theorem ctK_at {α : Type} [GT α] {xs : List α} {k : Nat} {x : α} (hk : xs[k]? = some x) : ctK xs k + GT.ct x ≤ GT.ct xs := by
  rw [← ctK_succ hk]; exact ctK_le _ _
theorem mk_at {α : Type} [GT α] {xs : List α} {k : Int} (h : GT.mkE xs k = xs) {i : Nat} {x : α} (hi : xs[i]? = some x) : GT.mkE x (k + (ctK xs i : Nat)) = x := by
  have hsp : xs = xs.take i ++ x :: xs.drop (i + 1) := by
    obtain ⟨hl, rfl⟩ := List.getElem?_eq_some_iff.1 hi
    rw [List.getElem_cons_drop, List.take_append_drop]
  have h1 : mkL GT.mkE GT.ct xs k = xs := h
  have h2 : mkL GT.mkE GT.ct xs k = mkL GT.mkE GT.ct (xs.take i) k ++ GT.mkE x (k + (ctK xs i : Nat)) :: mkL GT.mkE GT.ct (xs.drop (i + 1)) (k + (ctK xs i : Nat) + (GT.ct x : Nat)) := by
    rw [show mkL GT.mkE GT.ct xs k = mkL GT.mkE GT.ct (xs.take i ++ x :: xs.drop (i + 1)) k from by rw [← hsp], mkL_append]
    rfl
  have h3 : (mkL GT.mkE GT.ct xs k)[i]? = some (GT.mkE x (k + (ctK xs i : Nat))) := by
    have hlen : (mkL (GT.mkE (α := α)) GT.ct (xs.take i) k).length = i := by
      rw [mkL_length, List.length_take]; have := lt_of_some hi; omega
    rw [h2, List.getElem?_append_right (by omega), hlen]; simp
  rw [h1, hi] at h3
  exact (Option.some.inj h3).symm
/-- The list in which the first i elements are marked. -/
def mkI {α : Type} [GT α] (xs : List α) (k : Int) (i : Nat) : List α := GT.mkE (xs.take i) k ++ xs.drop i
theorem mkI_zero {α : Type} [GT α] (xs : List α) (k : Int) : mkI xs k 0 = xs := rfl
theorem mkI_all {α : Type} [GT α] (xs : List α) (k : Int) : mkI xs k xs.length = GT.mkE xs k := by unfold mkI; simp
theorem mkI_length {α : Type} [GT α] (xs : List α) (k : Int) (i : Nat) : (mkI xs k i).length = xs.length := by
  show (mkL GT.mkE GT.ct (xs.take i) k ++ xs.drop i).length = _
  rw [List.length_append, mkL_length, ← List.length_append, List.take_append_drop]
theorem mkI_at {α : Type} [GT α] (xs : List α) (k : Int) {i : Nat} : (mkI xs k i)[i]? = xs[i]? := by
  show (mkL GT.mkE GT.ct (xs.take i) k ++ xs.drop i)[i]? = _
  by_cases hi : i < xs.length
  · have hlen : (mkL (GT.mkE (α := α)) GT.ct (xs.take i) k).length = i := by rw [mkL_length, List.length_take]; omega
    rw [List.getElem?_append_right (by omega), hlen]; simp
  · have hz : (mkL GT.mkE GT.ct (xs.take i) k ++ xs.drop i).length = xs.length := mkI_length xs k i
    rw [List.getElem?_eq_none (by omega), List.getElem?_eq_none (by omega)]
theorem mkI_succ {α : Type} [GT α] {xs : List α} (k : Int) {i : Nat} {x : α} (hi : xs[i]? = some x) : (mkI xs k i).set i (GT.mkE x (k + (ctK xs i : Nat))) = mkI xs k (i + 1) := by
  show (mkL GT.mkE GT.ct (xs.take i) k ++ xs.drop i).set i _ = mkL GT.mkE GT.ct (xs.take (i + 1)) k ++ xs.drop (i + 1)
  have hl := lt_of_some hi
  have hlen : (mkL (GT.mkE (α := α)) GT.ct (xs.take i) k).length = i := by rw [mkL_length, List.length_take]; omega
  obtain ⟨_, hx⟩ := List.getElem?_eq_some_iff.1 hi
  have hd : xs.drop i = x :: xs.drop (i + 1) := by rw [← hx, List.getElem_cons_drop]
  rw [List.set_append_right _ _ (by omega), hlen, Nat.sub_self, hd, List.set_cons_zero, take_snoc hi, mkL_append]
  show _ = (mkL GT.mkE GT.ct (xs.take i) k ++ [GT.mkE x (k + (ctK xs i : Nat))]) ++ _
  simp
end Sk

namespace Sk
open Go Go.Proofs Go.RowKit
set_option maxHeartbeats 400000
set_option maxRecDepth 100000
set_option linter.unusedVariables false
set_option linter.unusedSimpArgs false
/-- A machine with its lists marked: what a struct handed over by value shows. -/
def Machine.mkT (x : Machine) (k : Int) : Machine :=
  { Plan := GT.mkE x.Plan k, Programs := GT.mkE x.Programs (k + (GT.ct x.Plan : Nat)), Cores := GT.mkE x.Cores (k + (GT.ct x.Plan : Nat) + (GT.ct x.Programs : Nat)), Holds := GT.mkE x.Holds (k + (GT.ct x.Plan : Nat) + (GT.ct x.Programs : Nat) + (GT.ct x.Cores : Nat)), Tick := x.Tick }
def Machine.ctT (x : Machine) : Nat := GT.ct x.Plan + GT.ct x.Programs + GT.ct x.Cores + GT.ct x.Holds
def Watch.mkT (x : Watch) (k : Int) : Watch := { Box := x.Box.mkT k, States := GT.mkE x.States (k + (x.Box.ctT : Nat)) }
def Watch.ctT (x : Watch) : Nat := x.Box.ctT + GT.ct x.States
def Setup.mkT (x : Setup) (k : Int) : Setup := GT.mkE x k
def Setup.ctT (x : Setup) : Nat := GT.ct x
def Board.mkT (x : Board) (k : Int) : Board := GT.mkE x k
def Board.ctT (x : Board) : Nat := GT.ct x
end Sk

