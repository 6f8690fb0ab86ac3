/- Contracts of functions of the given program, each under the condition that it states. -/
import Derived.Test.YtfokgfocnacocaaGreatChecked
import Derived.Test.YtfokgfocnacocaaGreatValid
import Derived.Test.YtfokgfocnacocaaGreatApp
namespace Sk
open Go Go.Proofs Go.RowKit
set_option maxHeartbeats 400000
set_option maxRecDepth 100000
set_option linter.unusedVariables false
set_option linter.unusedSimpArgs false
theorem not_f {b : Bool} (h : b = false) : (!b) = true := by rw [h]; rfl
theorem not_t {b : Bool} (h : b = true) : (!b) = false := by rw [h]; rfl
noncomputable def M.cv (n : Int) (c : Channel) : Bool := M.sized c.Kind c.Size && (M.inn c.From 0 (n - 1) && (M.inn c.To 0 (n - 1) && !(c.From == c.To)))
noncomputable def M.csv (xs : List Channel) (n : Int) : Bool := M.inn n 0 5 && (decide (xs.length ≤ 8) && xs.all (M.cv n))
theorem M.sized_iff {k s : Int} : M.sized k s = true ↔ (k = 1 ∧ s = 1 ∨ (k = 2 ∨ k = 3) ∧ 1 ≤ s ∧ s ≤ 4) := Bo.iff
theorem M.cv_iff {n : Int} {c : Channel} : M.cv n c = true ↔ (c.Kind = 1 ∧ c.Size = 1 ∨ (c.Kind = 2 ∨ c.Kind = 3) ∧ 1 ≤ c.Size ∧ c.Size ≤ 4) ∧ (0 ≤ c.From ∧ c.From ≤ n - 1) ∧ (0 ≤ c.To ∧ c.To ≤ n - 1) ∧ c.From ≠ c.To := by
 unfold M.cv
 simp only [Bool.and_eq_true, M.sized_iff, M.inn_iff, Bool.not_eq_true', beq_eq_false_iff_ne]
theorem impl_ChannelsValid_1 (v : Value) (x : Channel) (b : Nat) (n : Int) (w : World) (h : Rv w v x) (hb : b < w.heap.size) (hc : w.cell? ⟨b, 0, none⟩ = some (.int .i64 n)) (hn1 : 0 ≤ n) (hn2 : n ≤ 5) :
  Calls Tryz.prog 135 #[v, .pointer (some ⟨b, 0, none⟩)] w fun e w' => e = .returned (.bool (!M.cv n x)) ∧ Ext w w' := by
 obtain ⟨rfl, hr0, hr1, hr2, hr3⟩ := h.openChannel
 clear h
 cases h1 : M.sized x.Kind x.Size
 ·have hm := zh (congrArg (! ·) (and_f h1 : M.cv n x = _))
  go_enter Tryz.func135, Tryz.ntmps135
  go_wp2_with (first | (go_at_call 81; refine (impl_sized _ _ _).mono ?_; rintro e w' ⟨rfl, rfl⟩) | (go_at_call 34; refine (impl_in _ _ _ _).mono ?_; rintro e w' ⟨rfl, rfl⟩))
  go_ret
  exact ⟨wp_cond_ret hm.out.symm, (Ext.refl w).alloc _⟩
 ·cases h2 : M.inn x.From 0 (n - 1)
  ·have hm := zh (congrArg (! ·) ((and_t h1).trans (and_f h2) : M.cv n x = _))
   go_enter Tryz.func135, Tryz.ntmps135
   go_wp2_with (first | (go_at_call 81; refine (impl_sized _ _ _).mono ?_; rintro e w' ⟨rfl, rfl⟩) | (go_at_call 34; refine (impl_in _ _ _ _).mono ?_; rintro e w' ⟨rfl, rfl⟩))
   go_ret
   exact ⟨wp_cond_ret hm.out.symm, (Ext.refl w).alloc _⟩
  ·cases h3 : M.inn x.To 0 (n - 1)
   ·have hm := zh (congrArg (! ·) ((and_t h1).trans ((and_t h2).trans (and_f h3)) : M.cv n x = _))
    go_enter Tryz.func135, Tryz.ntmps135
    go_wp2_with (first | (go_at_call 81; refine (impl_sized _ _ _).mono ?_; rintro e w' ⟨rfl, rfl⟩) | (go_at_call 34; refine (impl_in _ _ _ _).mono ?_; rintro e w' ⟨rfl, rfl⟩))
    go_ret
    exact ⟨wp_cond_ret hm.out.symm, (Ext.refl w).alloc _⟩
   ·have hm : Hid ((!M.cv n x) = (x.From == x.To)) := zh (by unfold M.cv; rw [h1, h2, h3]; simp)
    go_enter Tryz.func135, Tryz.ntmps135
    go_wp2_with (first | (go_at_call 81; refine (impl_sized _ _ _).mono ?_; rintro e w' ⟨rfl, rfl⟩) | (go_at_call 34; refine (impl_in _ _ _ _).mono ?_; rintro e w' ⟨rfl, rfl⟩))
    all_goals go_ret
    all_goals exact ⟨wp_cond_ret hm.out.symm, (Ext.refl w).alloc _⟩
theorem impl_ChannelsValid (v : Value) (xs : List Channel) (n : Int) (w : World) (h : Rs w v xs) :
  Calls Tryz.prog 115 #[v, .int .i64 n] w fun e w' => e = .returned (.bool (M.csv xs n)) ∧ Ext w w' := by
 have e0 := zh ((Ext.refl w).alloc (.cells #[.int .i64 n] 3))
 have H := zh h
 obtain ⟨a, c, rfl, hl⟩ := h.form
 clear h
 cases h1 : M.inn n 0 5
 ·have hm := zh ((and_f h1).symm : _ = M.csv xs n)
  go_enter Tryz.func115, Tryz.ntmps115
  go_wp2_with (go_at_call 34; refine (impl_in _ _ _ _).mono ?_; rintro e w' ⟨rfl, rfl⟩)
  go_ret
  exact ⟨wp_cond_ret hm.out, e0.out⟩
 ·obtain ⟨hn1, hn2⟩ := M.inn_iff.1 h1
  have HX := zh (has_Channel 135 #[.pointer (some ⟨w.heap.size, 0, none⟩)] (fun x => !M.cv n x) _ xs _ (H.out.ext e0.out) (enter_of Tryz.func135 (by kernel_rfl) (by kernel_rfl))
   (fun w1 v x he _ hv => impl_ChannelsValid_1 v x _ n w1 hv (box_cell he).1 (box_cell he).2 hn1 hn2))
  by_cases h2 : xs.length ≤ 8
  ·have hm := zh ((not_any_not (M.cv n) xs).trans ((and_t h1).trans (and_t (decide_eq_true h2))).symm : _ = M.csv xs n)
   go_enter Tryz.func115, Tryz.ntmps115
   go_wp2_with (first | (go_at_call 34; refine (impl_in _ _ _ _).mono ?_; rintro e w' ⟨rfl, rfl⟩) | (go_at_call 134; refine HX.out.mono ?_; rintro e w' ⟨rfl, he⟩))
   go_ret
   exact ⟨wp_cond_ret hm.out, e0.out.tr he⟩
  ·have hm := zh (((and_t h1).trans (and_f (decide_eq_false h2))).symm : _ = M.csv xs n)
   go_enter Tryz.func115, Tryz.ntmps115
   go_wp2_with (go_at_call 34; refine (impl_in _ _ _ _).mono ?_; rintro e w' ⟨rfl, rfl⟩)
   go_ret
   exact ⟨wp_cond_ret hm.out, e0.out⟩
def M.cvs (n : Int) (c : Channel) : Bool := M.inn c.Kind 1 3 && (M.inn c.From 0 (n - 1) && (M.inn c.To 0 (n - 1) && (!(c.From == c.To) && (M.inn c.Size 1 4 && !(c.Kind == 1 && !(c.Size == 1))))))
theorem M.cvs_eq (n : Int) (c : Channel) : M.cvs n c = M.cv n c := by
 rw [Bool.eq_iff_iff, M.cv_iff]
 unfold M.cvs
 simp only [Bool.and_eq_true, M.inn_iff, Bool.not_eq_true', beq_eq_false_iff_ne, Bool.and_eq_false_iff, Bool.not_eq_false', beq_iff_eq]
 omega
theorem spec_ChannelsValid (v : Value) (xs : List Channel) (n : Int) (w : World) (h : Rs w v xs) :
    Calls Tryz.prog 84 #[v, .int .i64 n] w fun e w' => e = .returned (.bool (M.csv xs n)) ∧ Ext w w' := by
  obtain ⟨a, c, rfl, hl⟩ := h.form
  have H := zh h
  clear h
  cases h1 : M.inn n 0 5
  · have HN : Hid (M.csv xs n = false) := zh (and_f h1)
    go_enter Tryz.func84, Tryz.ntmps84
    go_wp2
    go_loopw [5, 6] (fun i _ wr => ∃ k : Nat, k ≤ xs.length ∧ i = .int .i64 k ∧ Ext w wr) (fun i _ _ => xs.length - (intOf i).toNat)
    case atStart => exact ⟨0, Nat.zero_le _, rfl, .refl _⟩
    case round =>
      obtain ⟨k, hk, rfl, hq⟩ := hrel
      have HQ := zh hq
      clear hq
      by_cases hlt : k < xs.length
      · obtain ⟨b, o, x, rfl, hb, hx, hc0, hc1, hc2, hc3, hr0, hr1, hr2, hr3, hv⟩ := (H.out.ext HQ.out).atChannel k hlt
        clear H
        go_wp2_with (go_at_call 43; refine (spec_In _ _ _ _).mono ?_; rintro e w' ⟨rfl, rfl⟩)
        all_goals first
          | (go_ret; exact ⟨wp_cond_ret HN.out.symm, (HQ.out.alloc _).set (Nat.le_trans HQ.out.sz (by simp)) _⟩)
          | (go_ret; exact ⟨wp_cond_ret HN.out.symm, HQ.out.alloc _⟩)
          | (go_roundw
             case rel => exact ⟨k + 1, by omega, by go_num, HQ.out.alloc _⟩
             case measure => simp [intOf]; omega)
      · clear H
        go_wp2_with (go_at_call 43; refine (spec_In _ _ _ _).mono ?_; rintro e w' ⟨rfl, rfl⟩)
        all_goals go_ret
        all_goals exact ⟨wp_cond_ret HN.out.symm, HQ.out⟩
  · obtain ⟨hn1, hn2⟩ := M.inn_iff.1 h1
    go_enter Tryz.func84, Tryz.ntmps84
    go_wp2
    go_loopw [5, 6] (fun i _ wr => ∃ k : Nat, k ≤ xs.length ∧ i = .int .i64 k ∧ (xs.take k).all (M.cv n) = true ∧ Ext w wr) (fun i _ _ => xs.length - (intOf i).toNat)
    case atStart => exact ⟨0, Nat.zero_le _, rfl, rfl, .refl _⟩
    case round =>
      obtain ⟨k, hk, rfl, he, hq⟩ := hrel
      have HE := zh he
      have HQ := zh hq
      clear he hq
      by_cases hlt : k < xs.length
      · obtain ⟨b, o, x, rfl, hb, hx, hc0, hc1, hc2, hc3, hr0, hr1, hr2, hr3, hv⟩ := (H.out.ext HQ.out).atChannel k hlt
        clear H
        have key : M.cv n x = false → M.csv xs n = false := fun hp => by unfold M.csv; rw [all_false_at (M.cv n) hx.out hp, Bool.and_false, Bool.and_false]
        rw [← M.cvs_eq] at key
        have hst := zh ((all_take_succ (M.cv n) hx.out).trans (by rw [HE.out, ← M.cvs_eq, Bool.true_and]))
        have KEY := zh key
        clear key
        cases g1 : M.inn x.Kind 1 3
        · have HN := zh (KEY.out (and_f g1))
          go_wp2_with (go_at_call 43; refine (spec_In _ _ _ _).mono ?_; rintro e w' ⟨rfl, rfl⟩)
          go_ret
          exact ⟨wp_cond_ret HN.out.symm, HQ.out.alloc _⟩
        · cases g2 : M.inn x.From 0 (n - 1)
          · have HN := zh (KEY.out ((and_t g1).trans (and_f g2)))
            go_wp2_with (go_at_call 43; refine (spec_In _ _ _ _).mono ?_; rintro e w' ⟨rfl, rfl⟩)
            go_ret
            exact ⟨wp_cond_ret HN.out.symm, HQ.out.alloc _⟩
          · cases g3 : M.inn x.To 0 (n - 1)
            · have HN := zh (KEY.out ((and_t g1).trans ((and_t g2).trans (and_f g3))))
              go_wp2_with (go_at_call 43; refine (spec_In _ _ _ _).mono ?_; rintro e w' ⟨rfl, rfl⟩)
              go_ret
              exact ⟨wp_cond_ret HN.out.symm, HQ.out.alloc _⟩
            · cases g4 : (x.From == x.To)
              · cases g5 : M.inn x.Size 1 4
                · have HN := zh (KEY.out ((and_t g1).trans ((and_t g2).trans ((and_t g3).trans ((and_t (not_f g4)).trans (and_f g5))))))
                  go_wp2_with (go_at_call 43; refine (spec_In _ _ _ _).mono ?_; rintro e w' ⟨rfl, rfl⟩)
                  go_ret
                  exact ⟨wp_cond_ret HN.out.symm, HQ.out.alloc _⟩
                · have hcvs : M.cvs n x = !(x.Kind == 1 && !(x.Size == 1)) := (and_t g1).trans ((and_t g2).trans ((and_t g3).trans ((and_t (not_f g4)).trans (and_t g5))))
                  cases g6 : (x.Kind == 1)
                  · have HN := zh ((hst.out.trans (hcvs.trans (by simp [g6]))) : _ = true)
                    clear hcvs
                    go_wp2_with (go_at_call 43; refine (spec_In _ _ _ _).mono ?_; rintro e w' ⟨rfl, rfl⟩)
                    go_roundw
                    case rel => exact ⟨k + 1, by omega, by go_num, HN.out, HQ.out.alloc _⟩
                    case measure => simp [intOf]; omega
                  · cases g7 : (x.Size == 1)
                    · have HN := zh (KEY.out (hcvs.trans (by simp [g6, g7])))
                      clear hcvs
                      go_wp2_with (go_at_call 43; refine (spec_In _ _ _ _).mono ?_; rintro e w' ⟨rfl, rfl⟩)
                      go_ret
                      exact ⟨wp_cond_ret HN.out.symm, HQ.out.alloc _⟩
                    · have HN := zh ((hst.out.trans (hcvs.trans (by simp [g6, g7]))) : _ = true)
                      clear hcvs
                      go_wp2_with (go_at_call 43; refine (spec_In _ _ _ _).mono ?_; rintro e w' ⟨rfl, rfl⟩)
                      go_roundw
                      case rel => exact ⟨k + 1, by omega, by go_num, HN.out, HQ.out.alloc _⟩
                      case measure => simp [intOf]; omega
              · have HN := zh (KEY.out ((and_t g1).trans ((and_t g2).trans ((and_t g3).trans (and_f (not_t g4))))))
                go_wp2_with (go_at_call 43; refine (spec_In _ _ _ _).mono ?_; rintro e w' ⟨rfl, rfl⟩)
                go_ret
                exact ⟨wp_cond_ret HN.out.symm, HQ.out.alloc _⟩
      · have HN : Hid (M.csv xs n = decide (xs.length ≤ 8)) := zh (by
          unfold M.csv; rw [← all_take_all (M.cv n) xs k (by omega), HE.out, Bool.and_true, h1, Bool.true_and])
        clear H
        by_cases hle : xs.length ≤ 8
        · go_wp2_with (go_at_call 43; refine (spec_In _ _ _ _).mono ?_; rintro e w' ⟨rfl, rfl⟩)
          go_ret
          exact ⟨wp_cond_ret (HN.out.trans (decide_eq_true hle)).symm, HQ.out⟩
        · go_wp2_with (go_at_call 43; refine (spec_In _ _ _ _).mono ?_; rintro e w' ⟨rfl, rfl⟩)
          go_ret
          exact ⟨wp_cond_ret (HN.out.trans (decide_eq_false hle)).symm, HQ.out⟩
noncomputable def M.setv (s : Setup) : Bool := M.psv s.Parts && (M.csv s.Channels s.Parts.length && M.ssv s.Slots s.Parts.length)
theorem impl_SetupValid (v : Value) (s : Setup) (w : World) (h : Rv w v s) :
  Calls Tryz.prog 76 #[v] w fun e w' => e = .returned (.bool (M.setv s)) ∧ Ext w w' := by
 obtain ⟨a0, c0, a1, c1, a2, c2, rfl, h0, hl0, h1, hl1, h2, hl2⟩ := h.openSetup
 clear h
 have e0 := zh ((Ext.refl w).alloc (.cells #[.slice a0 s.Parts.length c0, .slice a1 s.Channels.length c1, .slice a2 s.Slots.length c2] 27))
 cases g0 : M.psv s.Parts
 ·have hm := zh ((and_f g0).symm : _ = M.setv s)
  go_enter Tryz.func76, Tryz.ntmps76
  go_wp2_with fail
  refine (impl_PartsValid _ _ _ (h0.out.ext e0.out)).mono ?_
  rintro e w1 ⟨rfl, he1⟩
  have E1 := zh (e0.out.tr he1)
  clear he1
  go_wp2
  go_ret
  exact ⟨wp_cond_ret hm.out, E1.out⟩
 ·cases g1 : M.csv s.Channels s.Parts.length
  ·have hm := zh (((and_t g0).trans (and_f g1)).symm : _ = M.setv s)
   go_enter Tryz.func76, Tryz.ntmps76
   go_wp2_with fail
   refine (impl_PartsValid _ _ _ (h0.out.ext e0.out)).mono ?_
   rintro e w1 ⟨rfl, he1⟩
   have E1 := zh (e0.out.tr he1)
   obtain ⟨hcb, hfb⟩ := bcell he1
   go_wp2_with fail
   refine (impl_ChannelsValid _ _ _ _ (h1.out.ext E1.out)).mono ?_
   rintro e w2 ⟨rfl, he2⟩
   have E2 := zh (E1.out.tr he2)
   clear he1 he2 hcb hfb
   go_wp2
   go_ret
   exact ⟨wp_cond_ret hm.out, E2.out⟩
  ·have hm := zh (((and_t g0).trans (and_t g1)).symm : _ = M.setv s)
   go_enter Tryz.func76, Tryz.ntmps76
   go_wp2_with fail
   refine (impl_PartsValid _ _ _ (h0.out.ext e0.out)).mono ?_
   rintro e w1 ⟨rfl, he1⟩
   have E1 := zh (e0.out.tr he1)
   obtain ⟨hcb, hfb⟩ := bcell he1
   go_wp2_with fail
   refine (impl_ChannelsValid _ _ _ _ (h1.out.ext E1.out)).mono ?_
   rintro e w2 ⟨rfl, he2⟩
   have E2 := zh (E1.out.tr he2)
   obtain ⟨hcb2, hfb2⟩ := bcell (he1.tr he2)
   clear he1 he2 hcb hfb
   go_wp2_with fail
   refine (impl_SlotsValid _ _ _ _ (h2.out.ext E2.out)).mono ?_
   rintro e w3 ⟨rfl, he3⟩
   have E3 := zh (E2.out.tr he3)
   clear he3
   go_wp2
   go_ret
   exact ⟨wp_cond_ret hm.out, E3.out⟩
theorem spec_SetupValid (v : Value) (s : Setup) (w : World) (h : Rv w v s) :
  Calls Tryz.prog 40 #[v] w fun e w' => e = .returned (.bool (M.setv s)) ∧ Ext w w' := by
 obtain ⟨a0, c0, a1, c1, a2, c2, rfl, h0, hl0, h1, hl1, h2, hl2⟩ := h.openSetup
 clear h
 have e0 := zh ((Ext.refl w).alloc (.cells #[.slice a0 s.Parts.length c0, .slice a1 s.Channels.length c1, .slice a2 s.Slots.length c2] 27))
 cases g0 : M.psv s.Parts
 ·have hm := zh ((and_f g0).symm : _ = M.setv s)
  go_enter Tryz.func40, Tryz.ntmps40
  go_wp2_with fail
  refine (spec_PartsValid _ _ _ (h0.out.ext e0.out)).mono ?_
  rintro e w1 ⟨rfl, he1⟩
  have E1 := zh (e0.out.tr he1)
  clear he1
  go_wp2
  go_ret
  exact ⟨wp_cond_ret hm.out, E1.out⟩
 ·cases g1 : M.csv s.Channels s.Parts.length
  ·have hm := zh (((and_t g0).trans (and_f g1)).symm : _ = M.setv s)
   go_enter Tryz.func40, Tryz.ntmps40
   go_wp2_with fail
   refine (spec_PartsValid _ _ _ (h0.out.ext e0.out)).mono ?_
   rintro e w1 ⟨rfl, he1⟩
   have E1 := zh (e0.out.tr he1)
   obtain ⟨hcb, hfb⟩ := bcell he1
   go_wp2_with fail
   refine (spec_ChannelsValid _ _ _ _ (h1.out.ext E1.out)).mono ?_
   rintro e w2 ⟨rfl, he2⟩
   have E2 := zh (E1.out.tr he2)
   clear he1 he2 hcb hfb
   go_wp2
   go_ret
   exact ⟨wp_cond_ret hm.out, E2.out⟩
  ·have hm := zh (((and_t g0).trans (and_t g1)).symm : _ = M.setv s)
   go_enter Tryz.func40, Tryz.ntmps40
   go_wp2_with fail
   refine (spec_PartsValid _ _ _ (h0.out.ext e0.out)).mono ?_
   rintro e w1 ⟨rfl, he1⟩
   have E1 := zh (e0.out.tr he1)
   obtain ⟨hcb, hfb⟩ := bcell he1
   go_wp2_with fail
   refine (spec_ChannelsValid _ _ _ _ (h1.out.ext E1.out)).mono ?_
   rintro e w2 ⟨rfl, he2⟩
   have E2 := zh (E1.out.tr he2)
   obtain ⟨hcb2, hfb2⟩ := bcell (he1.tr he2)
   clear he1 he2 hcb hfb
   go_wp2_with fail
   refine (spec_SlotsValid _ _ _ _ (h2.out.ext E2.out)).mono ?_
   rintro e w3 ⟨rfl, he3⟩
   have E3 := zh (E2.out.tr he3)
   clear he3
   go_wp2
   go_ret
   exact ⟨wp_cond_ret hm.out, E3.out⟩
theorem elInt : El Tryz.prog 3 Int := El.of (z := .int .i64 0) (n := 1) (b := 8) (by kernel_rfl) rfl rfl (by decide)
def CI (w : World) (b : Nat) : Nat → List Int → Prop
 | _, [] => True
 | o, n :: ns => w.cell? ⟨b, o, none⟩ = some (.int .i64 n) ∧ rng n ∧ CI w b (o + 1) ns
theorem CI.row {w : World} {b : Nat} {ns : List Int} : ∀ {o : Nat}, CI w b o ns → Row w b o ns [] := by
 induction ns with
 | nil => intro o _; rfl
 | cons n ns ih =>
  intro o h
  exact ⟨[.int .i64 n], [], [], ⟨rfl, h.2.1, rfl⟩, fun j u hj => by
   cases j with
   | zero => simp at hj; subst hj; exact h.1
   | succ j => simp at hj, rfl, ih h.2.2⟩
theorem rng_of {n : Int} (h1 : -9223372036854775808 ≤ n) (h2 : n ≤ 9223372036854775807) : rng n := ⟨h1, h2⟩
def M.wn (x : Window) : List Int := [x.Base, x.Size, M.bit x.Write]
def M.pn (p : Part) : List Int := [p.Cells, (p.Windows.length : Int)] ++ p.Windows.flatMap M.wn
def M.cn (c : Channel) : List Int := [c.Kind, c.From, c.To, c.Size]
def M.sn (x : Slot) : List Int := [x.Who + 1, x.Ticks]
def M.nums (s : Setup) : List Int :=
 ((((([(s.Parts.length : Int)] ++ s.Parts.flatMap M.pn) ++ [(s.Channels.length : Int)]) ++ s.Channels.flatMap M.cn) ++ [(s.Slots.length : Int)]) ++ s.Slots.flatMap M.sn)
noncomputable def M.numbers (s : Setup) : List Int := if M.setv s then M.nums s else []
theorem flatMap_take {α β : Type} (f : α → List β) {xs : List α} {k : Nat} {x : α} (h : xs[k]? = some x) : (xs.take (k + 1)).flatMap f = (xs.take k).flatMap f ++ f x := by
 rw [take_snoc h, List.flatMap_append]; simp
theorem slices_Clip_int (v : Value) (xs : List Int) (w : World) (a : Option Addr) (c : Nat) (hv : v = .slice a xs.length c) (hc : xs.length ≤ c) (hl : c ≤ 9223372036854775807) :
  Calls Tryz.prog 105 #[v] w fun e w' => e = .returned (.slice a xs.length xs.length) ∧ w = w' := by
 subst hv
 go_enter Tryz.func105, Tryz.ntmps105
 go_wp2
 go_ret
 exact ⟨rfl, rfl⟩
theorem box3 {w w1 : World} {c0 c1 c2 : Value} {T : TypeId} (he : Ext (w.alloc (.cells #[c0, c1, c2] T)) w1) :
  w.heap.size < w1.heap.size ∧ w1.cell? ⟨w.heap.size, 0, none⟩ = some c0 ∧ w1.cell? ⟨w.heap.size, 1, none⟩ = some c1 ∧ w1.cell? ⟨w.heap.size, 2, none⟩ = some c2 := by
 have hs : w.heap.size < (w.alloc (.cells #[c0, c1, c2] T)).heap.size := by simp
 refine ⟨Nat.lt_of_lt_of_le hs he.sz, ?_, ?_, ?_⟩
 all_goals rw [(bcell he).1 _ _ hs]; simp
theorem M.bit_rng (b : Bool) : rng (M.bit b) := by cases b <;> exact ⟨by decide, by decide⟩
theorem M.setv_parts {s : Setup} (h : M.setv s = true) : s.Parts.length ≤ 5 := by
 simp only [M.setv, M.psv, Bool.and_eq_true, decide_eq_true_eq] at h; exact h.1.1
theorem flat_len {α β : Type} (f : α → List β) (xs : List α) (k B : Nat) (h : ∀ x ∈ xs, (f x).length ≤ B) : ((xs.take k).flatMap f).length ≤ xs.length * B := by
 have h2 : ∀ ys : List α, (∀ x ∈ ys, (f x).length ≤ B) → (ys.flatMap f).length ≤ ys.length * B := by
  intro ys
  induction ys with
  | nil => intro _; simp
  | cons y ys ih =>
   intro hy
   have := ih (fun x hx => hy x (List.mem_cons_of_mem _ hx))
   have := hy y (List.mem_cons_self ..)
   rw [List.flatMap_cons, List.length_append, List.length_cons, Nat.succ_mul]; omega
 refine Nat.le_trans (h2 _ fun x hx => h x (List.mem_of_mem_take hx)) (Nat.mul_le_mul_right _ ?_)
 rw [List.length_take]; omega
theorem M.setv_chans {s : Setup} (h : M.setv s = true) : s.Channels.length ≤ 8 := by
 simp only [M.setv, M.csv, Bool.and_eq_true, decide_eq_true_eq] at h; exact h.2.1.2.1
theorem M.setv_slots {s : Setup} (h : M.setv s = true) : s.Slots.length ≤ 12 := by
 simp only [M.setv, M.ssv, Bool.and_eq_true, M.inn_iff] at h; omega
theorem M.setv_who {s : Setup} (h : M.setv s = true) {x : Slot} (hx : x ∈ s.Slots) : -1 ≤ x.Who ∧ x.Who ≤ 5 := by
 have hp := M.setv_parts h
 simp only [M.setv, M.ssv, Bool.and_eq_true, List.all_eq_true, M.slv, M.inn_iff] at h
 have := h.2.2.2.2 x hx; omega
theorem M.setv_wsv {s : Setup} (h : M.setv s = true) {x : Part} (hx : x ∈ s.Parts) : M.wsv x.Windows = true ∧ M.inn x.Cells 1 8 = true := by
 simp only [M.setv, M.psv, Bool.and_eq_true, List.all_eq_true] at h
 have := h.1.2 x hx
 simpa only [M.pv1, Bool.and_eq_true] using this
theorem M.setv_win {s : Setup} (h : M.setv s = true) {k : Nat} {x : Part} (hx : s.Parts[k]? = some x) : x.Windows.length ≤ 12 := by
 have := (M.setv_wsv h (List.mem_of_getElem? hx)).1
 simp only [M.wsv, Bool.and_eq_true, decide_eq_true_eq] at this; exact this.1
theorem M.pn_len {s : Setup} (h : M.setv s = true) {x : Part} (hx : x ∈ s.Parts) : (M.pn x).length ≤ 38 := by
 obtain ⟨k, hk⟩ := List.getElem?_of_mem hx
 have h1 := M.setv_win h hk
 have h2 := flat_len M.wn x.Windows x.Windows.length 3 (fun y _ => by simp [M.wn])
 rw [List.take_length] at h2
 simp only [M.pn, List.length_append, List.length_cons, List.length_nil]; omega
def Ov {α : Type} [GT α] (L : Nat) (w : World) (v : Value) (x : α) : Prop := ∃ cs F, v = .agg cs.toArray ∧ GT.enc w cs x F ∧ Own L w F
theorem Ov.rv {α : Type} [GT α] {L : Nat} {w : World} {v : Value} {x : α} (h : Ov L w v x) : Rv w v x := by obtain ⟨cs, F, h1, h2, _⟩ := h; exact ⟨cs, F, h1, h2⟩
theorem Ov.mono {α : Type} [GT α] {L L' : Nat} {w : World} {v : Value} {x : α} (h : Ov L w v x) (hl : L' ≤ L) : Ov L' w v x := by
 obtain ⟨cs, F, h1, h2, h3⟩ := h
 exact ⟨cs, F, h1, h2, h3.mono hl⟩
def Hi (n : Nat) (w w' : World) : Prop := w'.heap.size = w.heap.size ∧ ∀ b, n ≤ b → w'.heap[b]? = w.heap[b]?
theorem Hi.refl (n : Nat) (w : World) : Hi n w w := ⟨rfl, fun _ _ => rfl⟩
theorem Hi.set {n : Nat} {w w' : World} (h : Hi n w w') {p : Addr} (hp : p.block < n) (u : Value) : Hi n w (w'.setCell p u) :=
 ⟨by rw [← h.1]; simp, fun b hb => by rw [heap_set_ne (by omega)]; exact h.2 b hb⟩
def Seg (L M : Nat) (w : World) (F : List Nat) : Prop := Own L w F ∧ (∀ b ∈ F, b < M) ∧ L ≤ M
theorem Seg.hi {L M n : Nat} {w w' : World} {F : List Nat} (h : Seg L M w F) (he : Hi n w w') (hn : n ≤ L) : Seg L M w' F :=
 ⟨⟨h.1.1, fun b hb => ⟨(h.1.2 b hb).1, by
  obtain ⟨cs, T, hk⟩ := (h.1.2 b hb).2
  refine ⟨cs, T, ?_⟩
  unfold Bk at *
  rw [he.2 b (Nat.le_trans hn (h.1.2 b hb).1)]; exact hk⟩⟩, h.2⟩
theorem Seg.wide {L M L' M' : Nat} {w : World} {F : List Nat} (h : Seg L M w F) (hl : L' ≤ L) (hm : M ≤ M') : Seg L' M' w F :=
 ⟨h.1.mono hl, fun b hb => Nat.lt_of_lt_of_le (h.2.1 b hb) hm, Nat.le_trans hl (Nat.le_trans h.2.2 hm)⟩
def Oe {α : Type} [GT α] (L M : Nat) (w : World) (cs : List Value) (x : α) : Prop := ∃ F, GT.enc w cs x F ∧ Seg L M w F
theorem Oe.hi {α : Type} [GT α] {L M n : Nat} {w w' : World} {cs : List Value} {x : α} (h : Oe L M w cs x) (he : Hi n w w') (hn : n ≤ L) : Oe L M w' cs x := by
 obtain ⟨F, h, o⟩ := h; exact ⟨F, GT.keep h (fun b hb => he.2 b (Nat.le_trans hn (o.1.2 b hb).1)), o.hi he hn⟩
theorem Oe.wide {α : Type} [GT α] {L M L' M' : Nat} {w : World} {cs : List Value} {x : α} (h : Oe L M w cs x) (hl : L' ≤ L) (hm : M ≤ M') : Oe L' M' w cs x := by
 obtain ⟨F, h, o⟩ := h; exact ⟨F, h, o.wide hl hm⟩
theorem Oe.ofS {α : Type} [GT α] {L L' : Nat} {w : World} {v : Value} {xs : List α} (h : Os L w v xs) (hl : L' ≤ L) (hl2 : L' ≤ w.heap.size) : Oe L' w.heap.size w [v] xs := by
 obtain ⟨F, h, o⟩ := h; exact ⟨F, ⟨v, rfl, h⟩, o.mono hl, h.inh, hl2⟩
theorem Oe.ov {α : Type} [GT α] {L M : Nat} {w : World} {cs : List Value} {x : α} (h : Oe L M w cs x) : Ov L w (.agg cs.toArray) x := by
 obtain ⟨F, h, o⟩ := h; exact ⟨cs, F, rfl, h, o.1⟩
theorem Bk.new1 (w : World) (A : Obj) (cs : List Value) (T : TypeId) : Bk ((w.alloc A).alloc (.cells cs.toArray T (0, 0))) (w.heap.size + 1) cs T := by
 have h := Bk.new (w.alloc A) cs T
 rwa [show (w.alloc A).heap.size = w.heap.size + 1 by simp] at h
theorem Bk.new2 (w : World) (A B : Obj) (cs : List Value) (T : TypeId) : Bk (((w.alloc A).alloc B).alloc (.cells cs.toArray T (0, 0))) (w.heap.size + 1 + 1) cs T := by
 have h := Bk.new ((w.alloc A).alloc B) cs T
 rwa [show ((w.alloc A).alloc B).heap.size = w.heap.size + 1 + 1 by simp] at h
theorem Rv.mkSetup {w : World} {x : Setup} {v0 v1 v2 : Value} (h0 : Rs w v0 x.Parts) (h1 : Rs w v1 x.Channels) (h2 : Rs w v2 x.Slots)  : Rv w (.agg #[v0, v1, v2]) x := by
 obtain ⟨F0, h0⟩ := h0
 obtain ⟨F1, h1⟩ := h1
 obtain ⟨F2, h2⟩ := h2
 exact ⟨_, _, rfl, _, _, _, _, _, _, rfl, h0, h1, h2, rfl⟩
theorem Oe.mkCore {w : World} {x : Core} {v0 : Value} {M0 M1 : Nat} (p0 : Oe M0 M1 w [v0] x.Cells) (r1 : rng x.At) : Oe M0 M1 w [v0, .int .i64 x.At, .bool x.Stopped] x := by
 obtain ⟨F0, ⟨u0, e0, h0⟩, s0⟩ := p0
 obtain rfl : v0 = u0 := by simpa using e0
 have s := s0
 refine ⟨_, ⟨_, rfl, h0, r1⟩, ?_⟩
 exact s
theorem Oe.mkHold {w : World} {x : Hold} {v0 : Value} {M0 M1 : Nat} (p0 : Oe M0 M1 w [v0] x.Lst) : Oe M0 M1 w [v0] x := by
 obtain ⟨F0, ⟨u0, e0, h0⟩, s0⟩ := p0
 obtain rfl : v0 = u0 := by simpa using e0
 have s := s0
 refine ⟨_, ⟨_, rfl, h0⟩, ?_⟩
 exact s
theorem Rv.mkMachine {w : World} {x : Machine} {v0 v1 v2 v3 v4 v5 : Value} (h0 : Rs w v0 x.Plan.Parts) (h1 : Rs w v1 x.Plan.Channels) (h2 : Rs w v2 x.Plan.Slots) (h3 : Rs w v3 x.Programs) (h4 : Rs w v4 x.Cores) (h5 : Rs w v5 x.Holds) (r6 : rng x.Tick) : Rv w (.agg #[v0, v1, v2, v3, v4, v5, .int .i64 x.Tick]) x := by
 obtain ⟨F0, h0⟩ := h0
 obtain ⟨F1, h1⟩ := h1
 obtain ⟨F2, h2⟩ := h2
 obtain ⟨F3, h3⟩ := h3
 obtain ⟨F4, h4⟩ := h4
 obtain ⟨F5, h5⟩ := h5
 exact ⟨_, _, rfl, _, _, _, _, _, _, _, _, _, _, _, _, rfl, h0, h1, h2, h3, h4, h5, r6, rfl⟩
theorem info_Health : (Tryz.prog.info? 55).map (fun i => (i.zero, i.size, i.bytes)) = some (some (.agg #[.bool false, .int .i64 0]), 2, 16) := by kernel_rfl
theorem info_Hold : (Tryz.prog.info? 46).map (fun i => (i.zero, i.size, i.bytes)) = some (some (.agg #[.slice none 0 0]), 1, 24) := by kernel_rfl
def Mo (F : List Nat) (w w' : World) : Prop :=
 w'.heap.size = w.heap.size ∧ Ext {w with heap := #[]} {w' with heap := #[]} ∧ (∀ b, b ∉ F → w'.heap[b]? = w.heap[b]?) ∧ ∀ b, Fz w b → Fz w' b
theorem Mo.refl (F : List Nat) (w : World) : Mo F w w := ⟨rfl, Ext.refl _, fun _ _ => rfl, fun _ h => h⟩
theorem Mo.set {F : List Nat} {a b : World} (h : Mo F a b) {p : Addr} (hp : p.block ∈ F) (u : Value) : Mo F a (b.setCell p u) := by
 refine ⟨by rw [← h.1]; simp, ?_, fun x hx => ?_, fun x hx => (h.2.2.2 x hx).set p u⟩
 ·obtain ⟨h1, h2, h3, h4, h5⟩ := h.2.1
  exact ⟨h1, h2, h3, h4, h5⟩
 ·rw [heap_set_ne (fun e => hx (by rw [e]; exact hp))]; exact h.2.2.1 x hx
theorem Mo.ext {F : List Nat} {W a b : World} (h : Mo F a b) (he : Ext W a) (hF : ∀ x ∈ F, W.heap.size ≤ x) : Ext W b := by
 obtain ⟨h1, h2, h3, h4, h5⟩ := he
 obtain ⟨k1, k2, k3, k4, k5⟩ := h.2.1
 exact ⟨k1.trans h1, k2.trans h2, k3.trans h3, by rw [h.1]; exact h4, fun b hb => (h.2.2.1 b (fun hm => by have := hF b hm; omega)).trans (h5 b hb)⟩
theorem Mo.own {F G : List Nat} {L : Nat} {a b : World} (h : Mo F a b) (ho : Own L a G) : Own L b G := ⟨ho.1, fun x hx => ⟨(ho.2 x hx).1, h.2.2.2 x (ho.2 x hx).2⟩⟩
def Mx (F : List Nat) (w w' : World) : Prop :=
 Ext {w with heap := #[]} {w' with heap := #[]} ∧ w.heap.size ≤ w'.heap.size ∧ (∀ b, b < w.heap.size → b ∉ F → w'.heap[b]? = w.heap[b]?) ∧ ∀ b, Fz w b → Fz w' b
theorem Mx.ofExt {F : List Nat} {w w' : World} (h : Ext w w') : Mx F w w' :=
 ⟨⟨h.os, h.tape, h.output, Nat.le_refl _, fun b hb => by cases hb⟩, h.sz, fun b hb _ => h.block b hb, fun b hb => hb.ext h⟩
theorem Mx.ofMo {F : List Nat} {w w' : World} (h : Mo F w w') : Mx F w w' := ⟨h.2.1, Nat.le_of_eq h.1.symm, fun b _ hn => h.2.2.1 b hn, h.2.2.2⟩
theorem Mx.tr {F : List Nat} {a b c : World} (h : Mx F a b) (k : Mx F b c) : Mx F a c :=
 ⟨h.1.tr k.1, Nat.le_trans h.2.1 k.2.1, fun x hx hn => (k.2.2.1 x (Nat.lt_of_lt_of_le hx h.2.1) hn).trans (h.2.2.1 x hx hn), fun x hx => k.2.2.2 x (h.2.2.2 x hx)⟩
theorem Mx.ext {F : List Nat} {W a b : World} (h : Mx F a b) (he : Ext W a) (hF : ∀ x ∈ F, W.heap.size ≤ x) : Ext W b := by
 obtain ⟨h1, h2, h3, h4, h5⟩ := he
 obtain ⟨k1, k2, k3, k4, k5⟩ := h.1
 exact ⟨k1.trans h1, k2.trans h2, k3.trans h3, Nat.le_trans h4 h.2.1, fun b hb => (h.2.2.1 b (Nat.lt_of_lt_of_le hb h4) (fun hm => by have := hF b hm; omega)).trans (h5 b hb)⟩
theorem Mx.enc {α : Type} [GT α] {F G : List Nat} {a b : World} {cs : List Value} {x : α} (h : Mx F a b) (k : GT.enc a cs x G) (hd : ∀ y, y ∈ G → y ∈ F → False) : GT.enc b cs x G :=
 GT.keep k fun y hy => h.2.2.1 y (GT.inh k y hy) (fun hf => hd y hy hf)
theorem Mx.sl {α : Type} [GT α] {F G : List Nat} {a b : World} {v : Value} {x : List α} (h : Mx F a b) (k : Sl a v x G) (hd : ∀ y, y ∈ G → y ∈ F → False) : Sl b v x G :=
 k.keep fun y hy => h.2.2.1 y (k.inh y hy) (fun hf => hd y hy hf)
theorem Mx.bk {F : List Nat} {a b : World} {p : Nat} {cs : List Value} {T : TypeId} (h : Mx F a b) (k : Bk a p cs T) (hp : p ∉ F) : Bk b p cs T := by
 have := h.2.2.1 p k.lt hp
 unfold Bk at *; rw [this]; exact k
end Sk
