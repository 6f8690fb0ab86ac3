/- Contracts of functions of the given program, and lemmas for them: each theorem states the condition under which it holds. -/
import Derived.Test.YtiepblmmldgmgaaChecked
import Derived.Lib.SliceRun
import Derived.Test.YtiepblmmldgmgaaHelp
import Derived.Test.YtiepblmmldgmgaaApp
import Derived.Test.YtiepblmmldgmgaaNums
namespace Sk
open Go Go.Proofs Go.RowKit
set_option maxHeartbeats 400000
set_option maxRecDepth 100000
set_option linter.unusedVariables false
set_option linter.unusedSimpArgs false
/-- A machine with its lists marked: what a struct handed over by value shows. -/
def Machine.mkT (x : Machine) (k : Int) : Machine :=
  { Plan := GT.mkE x.Plan k, Programs := GT.mkE x.Programs (k + (GT.ct x.Plan : Nat)), Cores := GT.mkE x.Cores (k + (GT.ct x.Plan : Nat) + (GT.ct x.Programs : Nat)), Holds := GT.mkE x.Holds (k + (GT.ct x.Plan : Nat) + (GT.ct x.Programs : Nat) + (GT.ct x.Cores : Nat)), Tick := x.Tick }
def Machine.ctT (x : Machine) : Nat := GT.ct x.Plan + GT.ct x.Programs + GT.ct x.Cores + GT.ct x.Holds
def Watch.mkT (x : Watch) (k : Int) : Watch := { Box := x.Box.mkT k, States := GT.mkE x.States (k + (x.Box.ctT : Nat)) }
def Watch.ctT (x : Watch) : Nat := x.Box.ctT + GT.ct x.States
def Setup.mkT (x : Setup) (k : Int) : Setup := GT.mkE x k
def Setup.ctT (x : Setup) : Nat := GT.ct x
def Board.mkT (x : Board) (k : Int) : Board := GT.mkE x k
def Board.ctT (x : Board) : Nat := GT.ct x
end Sk

namespace Sk
open Go Go.Proofs Go.RowKit
set_option maxHeartbeats 400000
set_option maxRecDepth 100000
set_option linter.unusedVariables false
set_option linter.unusedSimpArgs false
/-- A list whose own block is new; its elements lie in F. -/
def Oh {α : Type} [GT α] (L : Nat) (w : World) (v : Value) (xs : List α) (F : List Nat) : Prop :=
  (v = .slice none 0 0 ∧ xs = [] ∧ F = []) ∨ ∃ g, v = .slice (some ⟨g, 0, none⟩) xs.length xs.length ∧ L ≤ g ∧ Fz w g ∧ xs.length ≤ maxLen ∧ Row w g 0 xs F ∧ g ∉ F
theorem Oa.oh {α : Type} [GT α] {e : TypeId} {L : Nat} {w : World} {a : Option Addr} {n c : Nat} {xs : List α} {F : List Nat} (h : Oa e L w (.slice a n c) xs F) : Oh L w (.slice a n n) xs F := by
  rcases h with ⟨h, rfl, rfl⟩ | ⟨g, cap, cur, h, hL, hg, hl, hc, hs, hr, hn⟩
  · cases h; exact .inl ⟨rfl, rfl, rfl⟩
  · cases h; exact .inr ⟨g, rfl, hL, ⟨_, _, Bk.ofA hg⟩, Nat.le_trans hl hc, hr, hn⟩
theorem Oh.os {α : Type} [GT α] {L : Nat} {w : World} {v : Value} {xs : List α} (h : Oh L w v xs []) : Os L w v xs := by
  rcases h with ⟨rfl, rfl, _⟩ | ⟨g, rfl, hL, hz, hl, hr, _⟩
  · exact ⟨[], ⟨none, 0, rfl, Nat.le_refl _, Nat.zero_le _, .inl ⟨rfl, rfl⟩⟩, Own.nil _ _⟩
  · by_cases hx : xs = []
    · subst hx; exact ⟨[], ⟨some ⟨g, 0, none⟩, 0, rfl, Nat.le_refl _, Nat.zero_le _, .inl ⟨rfl, rfl⟩⟩, Own.nil _ _⟩
    · exact ⟨[g], ⟨_, _, rfl, Nat.le_refl _, hl, .inr ⟨hx, g, 0, [], rfl, rfl, hr⟩⟩, by simp, fun b hb => by rw [List.mem_singleton] at hb; subst hb; exact ⟨hL, hz⟩⟩
theorem elWindow : El Try.prog 60 Window := El.of (z := .agg #[.int .i64 0, .int .i64 0, .bool false]) (n := 3) (b := 24) (by kernel_rfl) rfl rfl (by decide)
theorem elPart : El Try.prog 58 Part := El.of (z := .agg #[.slice none 0 0, .int .i64 0]) (n := 2) (b := 32) (by kernel_rfl) rfl rfl (by decide)
theorem elChannel : El Try.prog 63 Channel := El.of (z := .agg #[.int .i64 0, .int .i64 0, .int .i64 0, .int .i64 0]) (n := 4) (b := 32) (by kernel_rfl) rfl rfl (by decide)
theorem elSlot : El Try.prog 65 Slot := El.of (z := .agg #[.int .i64 0, .int .i64 0]) (n := 2) (b := 16) (by kernel_rfl) rfl rfl (by decide)
end Sk

namespace Sk
open Go Go.Proofs Go.RowKit
set_option maxHeartbeats 400000
set_option maxRecDepth 100000
set_option linter.unusedVariables false
set_option linter.unusedSimpArgs false
/-- A channel that lets something flow from f to t. -/
def M.dc (f t : Int) (c : Channel) : Bool := (c.From == f && c.To == t) || (c.Kind == 3 && c.From == t && c.To == f)
def M.dir (cs : List Channel) (f t : Int) : Bool := (f == t) || cs.any (M.dc f t)
theorem impl_direct_1 (v : Value) (x : Channel) (b1 b2 : Nat) (f t : Int) (w : World) (h : Rv w v x) (hb1 : b1 < w.heap.size) (hb2 : b2 < w.heap.size) (hc1 : w.cell? ⟨b1, 0, none⟩ = some (.int .i64 f)) (hc2 : w.cell? ⟨b2, 0, none⟩ = some (.int .i64 t)) :
    Calls Try.prog 108 #[v, .pointer (some ⟨b1, 0, none⟩), .pointer (some ⟨b2, 0, none⟩)] w fun e w' => e = .returned (.bool (M.dc f t x)) ∧ Ext w w' := by
  obtain ⟨rfl, hr0, hr1, hr2, hr3⟩ := h.openChannel
  clear h
  cases hA : (x.From == f) <;> cases hB : (x.To == t) <;> cases hK : (x.Kind == 3) <;> cases hC : (x.From == t) <;> cases hD : (x.To == f)
  all_goals
    have hm := Lib.hid (by unfold M.dc; rw [hA, hB, hK, hC, hD] : M.dc f t x = _)
    go_enter Try.func108, Try.ntmps108
    go_wp2
    go_ret
    exact ⟨wp_cond_ret hm.out.symm, (Ext.refl w).alloc _⟩
theorem impl_direct (v : Value) (cs : List Channel) (f t : Int) (w : World) (h : Rs w v cs) :
    Calls Try.prog 104 #[v, .int .i64 f, .int .i64 t] w fun e w' => e = .returned (.bool (M.dir cs f t)) ∧ Ext w w' := by
  have e0 := Lib.hid (((Ext.refl w).alloc (.cells #[.int .i64 f] 3)).alloc (.cells #[.int .i64 t] 3))
  have H := Lib.hid h
  obtain ⟨a, c, rfl, hl⟩ := h.form
  clear h
  cases hA : (f == t)
  · have hm := Lib.hid (by unfold M.dir; rw [hA]; rfl : M.dir cs f t = cs.any (M.dc f t))
    have HX := Lib.hid (has_Channel 108 #[.pointer (some ⟨w.heap.size, 0, none⟩), .pointer (some ⟨w.heap.size + 1, 0, none⟩)] (M.dc f t) _ cs _ (H.out.ext e0.out) (enter_of Try.func108 (by kernel_rfl) (by kernel_rfl))
      (fun w1 v x he _ hv => impl_direct_1 v x _ _ f t w1 hv (by have := he.sz; simp at this; omega) (by have := he.sz; simp at this; omega) (by rw [(bcell he).1 _ _ (by simp; omega)]; simp) (by rw [(bcell he).1 _ _ (by simp)]; simp)))
    go_enter Try.func104, Try.ntmps104
    go_wp2_with (go_at_call 79; refine HX.out.mono ?_; rintro e w' ⟨rfl, he⟩)
    go_ret
    exact ⟨wp_cond_ret hm.out.symm, e0.out.tr he⟩
  · have hm := Lib.hid (by unfold M.dir; rw [hA]; rfl : M.dir cs f t = true)
    go_enter Try.func104, Try.ntmps104
    go_wp2
    go_ret
    exact ⟨wp_cond_ret hm.out.symm, e0.out⟩
theorem any_take_succ {α : Type} (p : α → Bool) {xs : List α} {k : Nat} {x : α} (hk : xs[k]? = some x) : (xs.take (k + 1)).any p = ((xs.take k).any p || p x) := by
  rw [take_snoc hk, List.any_append]; simp
theorem or_assoc3 (a b c : Bool) : (a || (b || c)) = ((a || b) || c) := (Bool.or_assoc a b c).symm
theorem spec_FlowDirect (v : Value) (cs : List Channel) (m : Nat) (f t : Nat) (w : World) (h : Rs w v cs) (hv : M.csv cs m = true) (hf : f < m) (ht : t < m) :
    Calls Try.prog 86 #[v, .int .i64 m, .int .i64 f, .int .i64 t] w fun e w' => e = .returned (.bool (M.dir cs f t)) ∧ Ext w w' := by
  obtain ⟨a, c, rfl, hl⟩ := h.form
  have H := Lib.hid h
  clear h
  have hm5 : m ≤ 5 := by
    have := hv; unfold M.csv at this; simp only [Bool.and_eq_true, M.inn_iff] at this; omega
  have h1 := M.inn_t (n := f) (lo := 0) (hi := m - 1) (by omega) (by omega)
  have h2 := M.inn_t (n := t) (lo := 0) (hi := m - 1) (by omega) (by omega)
  go_enter Try.func86, Try.ntmps86
  go_wp2_with (first | (go_at_call 45; refine (spec_In _ _ _ _).mono ?_; rintro e w' ⟨rfl, rfl⟩) | (go_at_call 67; refine (spec_ChannelsValid _ _ _ _ H.out).mono ?_; rintro e w1 ⟨rfl, he1⟩; have E1 := Lib.hid he1; clear he1))
  go_loopw [9, 10] (fun u i wr => ∃ k : Nat, k ≤ cs.length ∧ i = .int .i64 k ∧ u = .bool (((f : Int) == t) || (cs.take k).any (M.dc f t)) ∧ Ext w wr) (fun _ i _ => cs.length - (intOf i).toNat)
  case atStart => exact ⟨0, Nat.zero_le _, rfl, by simp, E1.out⟩
  case round =>
    obtain ⟨k, hk, rfl, rfl, hq⟩ := hrel
    have HQ := Lib.hid hq
    clear hq
    by_cases hlt : k < cs.length
    · obtain ⟨b, o, x, rfl, hb, hx, hc0, hc1, hc2, hc3, hr0, hr1, hr2, hr3, hv⟩ := (H.out.ext HQ.out).atChannel k hlt
      clear H
      have hst := Lib.hid (any_take_succ (M.dc f t) hx.out)
      generalize hg : (((f : Int) == t) || (cs.take k).any (M.dc f t)) = acc at *
      have HG := Lib.hid hg
      clear hg
      cases acc
      · cases hA : (x.From == f) <;> cases hB : (x.To == t) <;> cases hK : (x.Kind == 3) <;> cases hC : (x.From == t) <;> cases hD : (x.To == f)
        all_goals
          have hm := Lib.hid (by unfold M.dc; rw [hA, hB, hK, hC, hD] : M.dc f t x = _)
          go_wp2
          go_roundw
          case rel => exact ⟨k + 1, by omega, by go_num, by rw [hst.out, or_assoc3, HG.out, hm.out]; rfl, (HQ.out.alloc _)⟩
          case measure => simp [intOf]; omega
      · go_wp2
        go_roundw
        case rel => exact ⟨k + 1, by omega, by go_num, by rw [hst.out, or_assoc3, HG.out]; rfl, (HQ.out.alloc _)⟩
        case measure => simp [intOf]; omega
    · obtain rfl : k = cs.length := by omega
      rw [List.take_length]
      clear H
      go_wp2
      go_ret
      exact ⟨rfl, HQ.out⟩
end Sk

