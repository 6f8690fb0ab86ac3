/- Contracts of functions of the given program, and lemmas for them: each theorem states the condition under which it holds. -/
import Derived.Test.YtlejdkiihpeojaaGreatChecked
import Derived.Test.YtlejdkiihpeojaaGreatNums
namespace Sk
open Go Go.Proofs Go.RowKit
set_option maxHeartbeats 400000
set_option maxRecDepth 100000
set_option linter.unusedVariables false
set_option linter.unusedSimpArgs false
/-- A channel that lets something flow from f to t. -/
def M.dc (f t : Int) (c : Channel) : Bool := (c.From == f && c.To == t) || (c.Kind == 3 && c.From == t && c.To == f)
def M.dir (cs : List Channel) (f t : Int) : Bool := (f == t) || cs.any (M.dc f t)
theorem impl_direct_1 (v : Value) (x : Channel) (b1 b2 : Nat) (f t : Int) (w : World) (h : Rv w v x) (hb1 : b1 < w.heap.size) (hb2 : b2 < w.heap.size) (hc1 : w.cell? ⟨b1, 0, none⟩ = some (.int .i64 f)) (hc2 : w.cell? ⟨b2, 0, none⟩ = some (.int .i64 t)) :
  Calls Tryz.prog 168 #[v, .pointer (some ⟨b1, 0, none⟩), .pointer (some ⟨b2, 0, none⟩)] w fun e w' => e = .returned (.bool (M.dc f t x)) ∧ Ext w w' := by
 obtain ⟨rfl, hr0, hr1, hr2, hr3⟩ := h.openChannel
 clear h
 cases hA : (x.From == f) <;> cases hB : (x.To == t) <;> cases hK : (x.Kind == 3) <;> cases hC : (x.From == t) <;> cases hD : (x.To == f)
 all_goals
  have hm := Lib.hid (by unfold M.dc; rw [hA, hB, hK, hC, hD] : M.dc f t x = _)
  go_enter Tryz.func168, Tryz.ntmps168
  go_wp2
  go_ret
  exact ⟨wp_cond_ret hm.out.symm, (Ext.refl w).alloc _⟩
theorem impl_direct (v : Value) (cs : List Channel) (f t : Int) (w : World) (h : Rs w v cs) :
  Calls Tryz.prog 128 #[v, .int .i64 f, .int .i64 t] w fun e w' => e = .returned (.bool (M.dir cs f t)) ∧ Ext w w' := by
 have e0 := Lib.hid (((Ext.refl w).alloc (.cells #[.int .i64 f] 3)).alloc (.cells #[.int .i64 t] 3))
 have H := Lib.hid h
 obtain ⟨a, c, rfl, hl⟩ := h.form
 clear h
 cases hA : (f == t)
 ·have hm := Lib.hid (by unfold M.dir; rw [hA]; rfl : M.dir cs f t = cs.any (M.dc f t))
  have HX := Lib.hid (has_Channel 168 #[.pointer (some ⟨w.heap.size, 0, none⟩), .pointer (some ⟨w.heap.size + 1, 0, none⟩)] (M.dc f t) _ cs _ (H.out.ext e0.out) (enter_of Tryz.func168 (by kernel_rfl) (by kernel_rfl))
   (fun w1 v x he _ hv => impl_direct_1 v x _ _ f t w1 hv (by have := he.sz; simp at this; omega) (by have := he.sz; simp at this; omega) (by rw [(bcell he).1 _ _ (by simp; omega)]; simp) (by rw [(bcell he).1 _ _ (by simp)]; simp)))
  go_enter Tryz.func128, Tryz.ntmps128
  go_wp2_with (go_at_call 167; refine HX.out.mono ?_; rintro e w' ⟨rfl, he⟩)
  go_ret
  exact ⟨wp_cond_ret hm.out.symm, e0.out.tr he⟩
 ·have hm := Lib.hid (by unfold M.dir; rw [hA]; rfl : M.dir cs f t = true)
  go_enter Tryz.func128, Tryz.ntmps128
  go_wp2
  go_ret
  exact ⟨wp_cond_ret hm.out.symm, e0.out⟩
theorem any_take_succ {α : Type} (p : α → Bool) {xs : List α} {k : Nat} {x : α} (hk : xs[k]? = some x) : (xs.take (k + 1)).any p = ((xs.take k).any p || p x) := by
 rw [take_snoc hk, List.any_append]; simp
theorem or_assoc3 (a b c : Bool) : (a || (b || c)) = ((a || b) || c) := (Bool.or_assoc a b c).symm
theorem spec_FlowDirect (v : Value) (cs : List Channel) (m : Nat) (f t : Nat) (w : World) (h : Rs w v cs) (hv : M.csv cs m = true) (hf : f < m) (ht : t < m) :
  Calls Tryz.prog 127 #[v, .int .i64 m, .int .i64 f, .int .i64 t] w fun e w' => e = .returned (.bool (M.dir cs f t)) ∧ Ext w w' := by
 obtain ⟨a, c, rfl, hl⟩ := h.form
 have H := Lib.hid h
 clear h
 have hm5 : m ≤ 5 := by
  have := hv; unfold M.csv at this; simp only [Bool.and_eq_true, M.inn_iff] at this; omega
 have h1 := M.inn_t (n := f) (lo := 0) (hi := m - 1) (by omega) (by omega)
 have h2 := M.inn_t (n := t) (lo := 0) (hi := m - 1) (by omega) (by omega)
 go_enter Tryz.func127, Tryz.ntmps127
 go_wp2_with (first | (go_at_call 59; refine (spec_In _ _ _ _).mono ?_; rintro e w' ⟨rfl, rfl⟩) | (go_at_call 126; refine (spec_ChannelsValid _ _ _ _ H.out).mono ?_; rintro e w1 ⟨rfl, he1⟩; have E1 := Lib.hid he1; clear he1))
 go_loopw [9, 10] (fun u i wr => ∃ k : Nat, k ≤ cs.length ∧ i = .int .i64 k ∧ u = .bool (((f : Int) == t) || (cs.take k).any (M.dc f t)) ∧ Ext w wr) (fun _ i _ => cs.length - (intOf i).toNat)
 case atStart => exact ⟨0, Nat.zero_le _, rfl, by simp, E1.out⟩
 case round =>
  obtain ⟨k, hk, rfl, rfl, hq⟩ := hrel
  have HQ := Lib.hid hq
  clear hq
  by_cases hlt : k < cs.length
  ·obtain ⟨b, o, x, rfl, hb, hx, hc0, hc1, hc2, hc3, hr0, hr1, hr2, hr3, hv⟩ := (H.out.ext HQ.out).atChannel k hlt
   clear H
   have hst := Lib.hid (any_take_succ (M.dc f t) hx.out)
   generalize hg : (((f : Int) == t) || (cs.take k).any (M.dc f t)) = acc at *
   have HG := Lib.hid hg
   clear hg
   cases acc
   ·cases hA : (x.From == f) <;> cases hB : (x.To == t) <;> cases hK : (x.Kind == 3) <;> cases hC : (x.From == t) <;> cases hD : (x.To == f)
    all_goals
     have hm := Lib.hid (by unfold M.dc; rw [hA, hB, hK, hC, hD] : M.dc f t x = _)
     go_wp2
     go_roundw
     case rel => exact ⟨k + 1, by omega, by go_num, by rw [hst.out, or_assoc3, HG.out, hm.out]; rfl, (HQ.out.alloc _)⟩
     case measure => simp [intOf]; omega
   ·go_wp2
    go_roundw
    case rel => exact ⟨k + 1, by omega, by go_num, by rw [hst.out, or_assoc3, HG.out]; rfl, (HQ.out.alloc _)⟩
    case measure => simp [intOf]; omega
  ·obtain rfl : k = cs.length := by omega
   rw [List.take_length]
   clear H
   go_wp2
   go_ret
   exact ⟨rfl, HQ.out⟩
end Sk
