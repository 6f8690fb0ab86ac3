/- Contracts of functions of the given program, and lemmas for them: each theorem states the condition under which it holds. -/
import Derived.Test.YtiepblmmldgmgaaChecked
import Derived.Lib.SliceRun
import Derived.Deep.CutBlock
import Derived.Deep.CutRange
import Derived.Test.YtiepblmmldgmgaaCopy
import Derived.Test.YtiepblmmldgmgaaHelp
import Derived.Test.YtiepblmmldgmgaaTypes
import Derived.Test.YtiepblmmldgmgaaRefc
namespace Sk
open Go Go.Proofs Go.RowKit
set_option maxHeartbeats 4000000
set_option maxRecDepth 100000
set_option linter.unusedVariables false
set_option linter.unusedSimpArgs false
theorem chg_setCells (b : Nat) : ∀ (vs : List Value) (o : Nat) (w : World), Chg b o vs.length [] w (w.setCells b o vs)
  | [], o, w => Chg.refl _ _ _ _ _
  | v :: vs, o, w => by
    have h1 : Chg b o (vs.length + 1) [] w (w.setCell ⟨b, o, none⟩ v) := (Chg.refl _ _ _ _ _).set ⟨Nat.le_refl _, by omega⟩ _
    have h2 := chg_setCells b vs (o + 1) (w.setCell ⟨b, o, none⟩ v)
    exact h1.trF (h2.wide (by omega) (by omega) (fun _ h => h)) (fun _ h => by cases h)
theorem run_clear {α : Type} [GT α] {P : Program} (w : World) (t e : TypeId) (ht : P.underlying t = some (.slice e)) (hel : El P e α) (b o n c : Nat)
    (hc : ∀ j, j < n * GT.sz α → ∃ u, w.cell? ⟨b, o + j, none⟩ = some u) (hf : ∀ j, w.frozen? ⟨b, j, none⟩ = false) :
    ∃ w', (∀ ty, (Builtin.clear_ #[t] ty #[.slice (some ⟨b, o, none⟩) n c]).run P w = .ok (.tuple #[]) w') ∧ Chg b o (n * GT.sz α) [] w w' := by
  by_cases hn : n = 0
  · subst hn
    exact ⟨w, fun ty => by simp [Builtin.clear_, run_underlying ht], by rw [Nat.zero_mul]; exact Chg.refl _ _ _ _ _⟩
  · obtain ⟨i, z, bytes, hi, hz, hsz, hby, hzc, hb⟩ := hel
    have hzl : z.cells.size = GT.sz α := by rw [← GT.len (GT.zero (α := α) w), ← hzc]; simp
    have hlen : (Builtin.zeroCells z.cells n).toList.length = n * GT.sz α := by simp [Builtin.zeroCells, hzl]
    have h1 : ∀ v ∈ (Builtin.zeroCells z.cells n).toList, v.oneCell' = true := by
      intro v hv
      simp only [Builtin.zeroCells, Array.toList_map, List.mem_map, Array.mem_toList_iff, Array.mem_range] at hv
      obtain ⟨k, hk, rfl⟩ := hv
      have hp : 0 < z.cells.size := by rw [hzl]; exact GT.pos
      have hm := Nat.mod_lt k hp
      rw [getElem!_pos z.cells _ hm]
      exact GT.one (GT.zero (α := α) w) _ (by rw [← hzc]; simp)
    have hst := run_storeCells_cells (P := P) b o (Builtin.zeroCells z.cells n).toList 0 w (fun j hj => by rw [hlen] at hj; obtain ⟨u, hu⟩ := hc j hj; simp [hu]) (fun j hj => hf _) h1
    simp only [Nat.add_zero] at hst
    obtain ⟨m, rfl⟩ : ∃ m, n = m + 1 := ⟨n - 1, by omega⟩
    have hv : (zeroValue e).run P w = .ok z w := by simp [zeroValue, typeInfo, hi, hz]
    refine ⟨_, fun ty => by simp [Builtin.clear_, run_underlying ht, hv, hst]; rfl, ?_⟩
    have := chg_setCells b (Builtin.zeroCells z.cells (m + 1)).toList o w
    rwa [hlen] at this
theorem Chg.gb {b o n : Nat} {a c : World} (h : Chg b o n [] a c) : a.grownBy c (some b) := ⟨h.1.os, h.1.tape, h.1.output, h.sz, fun k hk hne => h.keep hk (fun e => hne (by rw [e])) (by simp)⟩
end Sk

namespace Sk
open Go Go.Proofs Go.RowKit
set_option maxHeartbeats 4000000
set_option maxRecDepth 100000
set_option linter.unusedVariables false
set_option linter.unusedSimpArgs false
theorem ov_zero {α : Type} [GT α] {L : Nat} {w : World} : Ov L w (.agg (GT.zc α).toArray) (default : α) := ⟨_, [], rfl, GT.zero w, Own.nil _ _⟩
end Sk

namespace Sk
open Go Go.Proofs Go.RowKit
set_option maxHeartbeats 400000
set_option maxRecDepth 100000
set_option linter.unusedVariables false
set_option linter.unusedSimpArgs false
theorem beq_cases {α : Type} [BEq α] [LawfulBEq α] (x y : α) : (x = y ∧ (x == y) = true ∧ (x != y) = false) ∨ (x ≠ y ∧ (x == y) = false ∧ (x != y) = true) := by
  by_cases h : x = y
  · exact .inl ⟨h, by simpa using h, by simpa using h⟩
  · exact .inr ⟨h, by simpa using h, by simpa using h⟩
theorem impl_Equal_int (v1 v2 : Value) (xs ys : List Int) (w : World) (hv1 : Rs w v1 xs) (hv2 : Rs w v2 ys) :
   Calls Try.prog 40 #[v1, v2] w fun e w' => e = .returned (.bool (Eqb xs ys)) ∧ Ext w w' := by
  obtain ⟨a, c, rfl, hl⟩ := hv1.form
  obtain ⟨a2, c2, rfl, hl2⟩ := hv2.form
  by_cases hne : xs.length = ys.length
  · have H := Lib.hid hne
    rw [← hne] at hv2 hl2 ⊢
    clear hne
    have H1 := Lib.hid hv1
    have H2 := Lib.hid hv2
    clear hv1 hv2
    go_enter Try.func40, Try.ntmps40
    go_wp2
    go_loopw [5, 13] (fun _ i wr => ∃ k : Nat, k ≤ xs.length ∧ i = .int .i64 k ∧ xs.take k = ys.take k ∧ Ext w wr) (fun _ i _ => xs.length - (intOf i).toNat)
    case atStart => exact ⟨0, Nat.zero_le _, rfl, rfl, .refl _⟩
    case round =>
      obtain ⟨k, hk, rfl, he, hq⟩ := hrel
      have HE := Lib.hid he
      have HQ := Lib.hid hq
      clear he hq
      by_cases hlt : k < xs.length
      · obtain ⟨b, o, x, rfl, _, hx1, hc1, g0⟩ := (H1.out.ext HQ.out).atInt k hlt
        obtain ⟨b2, o2, y, rfl, _, hx2, hc2, g1⟩ := (H2.out.ext HQ.out).atInt k (by have := H.out; omega)
        clear H1 H2
        rcases beq_cases x y with ⟨hx, q1, q2⟩ | ⟨hx, q1, q2⟩
        · have hx3 := Lib.hid hx
          clear hx
          go_wp2
          go_quiet (fail)
          go_wp2
          go_roundw
          case rel => exact ⟨k + 1, by omega, by go_num, take_eq_succ hx1.out (by first | exact hx2.out | exact hx3.out ▸ hx2.out) HE.out, HQ.out.drewN _⟩
          case measure => simp [intOf]; omega
        · have HN := Lib.hid (Eqb.f (ne_at hx1.out hx2.out hx))
          clear hx
          go_wp2
          go_quiet (fail)
          go_wp2
          go_ret
          exact ⟨wp_cond_ret HN.out.symm, HQ.out.drewN _⟩
      · have HN := Lib.hid (Eqb.t (take_eq_all xs ys k H.out (by omega) HE.out))
        clear H1 H2
        go_wp2
        go_ret
        exact ⟨wp_cond_ret HN.out.symm, HQ.out⟩
  · have HN := Lib.hid (Eqb.f (fun h => hne (by rw [h]) : xs ≠ ys))
    have hb : decide (xs.length = ys.length) = false := by simpa using hne
    clear hv1 hv2
    go_enter Try.func40, Try.ntmps40
    go_wp2
    all_goals go_ret
    all_goals exact ⟨wp_cond_ret HN.out.symm, .refl _⟩
theorem law_sameInts (v1 v2 : Value) (xs ys : List Int) (w : World) (hv1 : Rs w v1 xs) (hv2 : Rs w v2 ys) :
   Calls Try.prog 11 #[v1, v2] w fun e w' => e = .returned (.bool (Eqb xs ys)) ∧ Ext w w' := by
  obtain ⟨a, c, rfl, hl⟩ := hv1.form
  obtain ⟨a2, c2, rfl, hl2⟩ := hv2.form
  by_cases hne : xs.length = ys.length
  · have H := Lib.hid hne
    rw [← hne] at hv2 hl2 ⊢
    clear hne
    have H1 := Lib.hid hv1
    have H2 := Lib.hid hv2
    clear hv1 hv2
    go_enter Try.func11, Try.ntmps11
    go_wp2
    go_loopw [5] (fun i wr => ∃ k : Nat, k ≤ xs.length ∧ i = .int .i64 k ∧ xs.take k = ys.take k ∧ Ext w wr) (fun i _ => xs.length - (intOf i).toNat)
    case atStart => exact ⟨0, Nat.zero_le _, rfl, rfl, .refl _⟩
    case round =>
      obtain ⟨k, hk, rfl, he, hq⟩ := hrel
      have HE := Lib.hid he
      have HQ := Lib.hid hq
      clear he hq
      by_cases hlt : k < xs.length
      · obtain ⟨b, o, x, rfl, _, hx1, hc1, g0⟩ := (H1.out.ext HQ.out).atInt k hlt
        obtain ⟨b2, o2, y, rfl, _, hx2, hc2, g1⟩ := (H2.out.ext HQ.out).atInt k (by have := H.out; omega)
        clear H1 H2
        rcases beq_cases x y with ⟨hx, q1, q2⟩ | ⟨hx, q1, q2⟩
        · have hx3 := Lib.hid hx
          clear hx
          go_wp2
          go_quiet (fail)
          go_wp2
          go_roundw
          case rel => exact ⟨k + 1, by omega, by go_num, take_eq_succ hx1.out (by first | exact hx2.out | exact hx3.out ▸ hx2.out) HE.out, HQ.out.drewN _⟩
          case measure => simp [intOf]; omega
        · have HN := Lib.hid (Eqb.f (ne_at hx1.out hx2.out hx))
          clear hx
          go_wp2
          go_quiet (fail)
          go_wp2
          go_ret
          exact ⟨wp_cond_ret HN.out.symm, HQ.out.drewN _⟩
      · have HN := Lib.hid (Eqb.t (take_eq_all xs ys k H.out (by omega) HE.out))
        clear H1 H2
        go_wp2
        go_ret
        exact ⟨wp_cond_ret HN.out.symm, HQ.out⟩
  · have HN := Lib.hid (Eqb.f (fun h => hne (by rw [h]) : xs ≠ ys))
    have hb : decide (xs.length = ys.length) = false := by simpa using hne
    clear hv1 hv2
    go_enter Try.func11, Try.ntmps11
    go_wp2
    all_goals go_ret
    all_goals exact ⟨wp_cond_ret HN.out.symm, .refl _⟩
end Sk

namespace Sk
open Go Go.Proofs Go.RowKit
set_option linter.unusedVariables false
set_option linter.unusedSimpArgs false
theorem M.setv_tot {s : Setup} (h : M.setv s = true) : GT.tot s ≤ 1000 := by
  have h5 := M.setv_parts h
  have h8 := M.setv_chans h
  have h12 := M.setv_slots h
  have hp := tot_list 30 5 s.Parts h5 (fun x hx => by
    obtain ⟨k, hk⟩ := List.getElem?_of_mem hx
    have hw := M.setv_win h hk
    have := tot_list 0 12 x.Windows hw (fun y _ => Nat.le_refl _)
    show GT.tot x.Windows + GT.tot x.Cells ≤ _
    have h0 : GT.tot x.Cells = 0 := rfl
    omega)
  have hc := tot_list 0 8 s.Channels h8 (fun y _ => Nat.le_refl _)
  have hs := tot_list 0 12 s.Slots h12 (fun y _ => Nat.le_refl _)
  show GT.tot s.Parts + GT.tot s.Channels + GT.tot s.Slots ≤ _
  omega
end Sk

