/- Contracts of functions of the given program, each under the condition that it states. -/
import Derived.Test.YtfihgkjbjpodnaaChecked
import Derived.Test.YtfihgkjbjpodnaaValid
namespace Sk
open Go Go.Proofs Go.RowKit
set_option maxHeartbeats 400000
set_option maxRecDepth 100000
set_option linter.unusedVariables false
set_option linter.unusedSimpArgs false
theorem not_f {b : Bool} (h : b = false) : (!b) = true := by rw [h]; rfl
theorem not_t {b : Bool} (h : b = true) : (!b) = false := by rw [h]; rfl
noncomputable def M.cv (n : Int) (c : Channel) : Bool := M.sized c.Kind c.Size && (M.inn c.From 0 (n - 1) && (M.inn c.To 0 (n - 1) && !(c.From == c.To)))
noncomputable def M.csv (xs : List Channel) (n : Int) : Bool := M.inn n 0 5 && (decide (xs.length ≤ 8) && xs.all (M.cv n))
theorem M.sized_iff {k s : Int} : M.sized k s = true ↔ (k = 1 ∧ s = 1 ∨ (k = 2 ∨ k = 3) ∧ 1 ≤ s ∧ s ≤ 4) := Bo.iff
theorem M.cv_iff {n : Int} {c : Channel} : M.cv n c = true ↔ (c.Kind = 1 ∧ c.Size = 1 ∨ (c.Kind = 2 ∨ c.Kind = 3) ∧ 1 ≤ c.Size ∧ c.Size ≤ 4) ∧ (0 ≤ c.From ∧ c.From ≤ n - 1) ∧ (0 ≤ c.To ∧ c.To ≤ n - 1) ∧ c.From ≠ c.To := by
 unfold M.cv
 simp only [Bool.and_eq_true, M.sized_iff, M.inn_iff, Bool.not_eq_true', beq_eq_false_iff_ne]
theorem impl_ChannelsValid_1 (v : Value) (x : Channel) (b : Nat) (n : Int) (w : World) (h : Rv w v x) (hb : b < w.heap.size) (hc : w.cell? ⟨b, 0, none⟩ = some (.int .i64 n)) (hn1 : 0 ≤ n) (hn2 : n ≤ 5) :
  Calls Try.prog 69 #[v, .pointer (some ⟨b, 0, none⟩)] w fun e w' => e = .returned (.bool (!M.cv n x)) ∧ Ext w w' := by
 obtain ⟨rfl, hr0, hr1, hr2, hr3⟩ := h.openChannel
 clear h
 cases h1 : M.sized x.Kind x.Size
 ·have hm := zh (congrArg (! ·) (and_f h1 : M.cv n x = _))
  go_enter Try.func69, Try.ntmps69
  go_wp2_with (first | (go_at_call 30; refine (impl_sized _ _ _).mono ?_; rintro e w' ⟨rfl, rfl⟩) | (go_at_call 13; refine (impl_in _ _ _ _).mono ?_; rintro e w' ⟨rfl, rfl⟩))
  go_ret
  exact ⟨wp_cond_ret hm.out.symm, (Ext.refl w).alloc _⟩
 ·cases h2 : M.inn x.From 0 (n - 1)
  ·have hm := zh (congrArg (! ·) ((and_t h1).trans (and_f h2) : M.cv n x = _))
   go_enter Try.func69, Try.ntmps69
   go_wp2_with (first | (go_at_call 30; refine (impl_sized _ _ _).mono ?_; rintro e w' ⟨rfl, rfl⟩) | (go_at_call 13; refine (impl_in _ _ _ _).mono ?_; rintro e w' ⟨rfl, rfl⟩))
   go_ret
   exact ⟨wp_cond_ret hm.out.symm, (Ext.refl w).alloc _⟩
  ·cases h3 : M.inn x.To 0 (n - 1)
   ·have hm := zh (congrArg (! ·) ((and_t h1).trans ((and_t h2).trans (and_f h3)) : M.cv n x = _))
    go_enter Try.func69, Try.ntmps69
    go_wp2_with (first | (go_at_call 30; refine (impl_sized _ _ _).mono ?_; rintro e w' ⟨rfl, rfl⟩) | (go_at_call 13; refine (impl_in _ _ _ _).mono ?_; rintro e w' ⟨rfl, rfl⟩))
    go_ret
    exact ⟨wp_cond_ret hm.out.symm, (Ext.refl w).alloc _⟩
   ·have hm : Hid ((!M.cv n x) = (x.From == x.To)) := zh (by unfold M.cv; rw [h1, h2, h3]; simp)
    go_enter Try.func69, Try.ntmps69
    go_wp2_with (first | (go_at_call 30; refine (impl_sized _ _ _).mono ?_; rintro e w' ⟨rfl, rfl⟩) | (go_at_call 13; refine (impl_in _ _ _ _).mono ?_; rintro e w' ⟨rfl, rfl⟩))
    all_goals go_ret
    all_goals exact ⟨wp_cond_ret hm.out.symm, (Ext.refl w).alloc _⟩
theorem impl_ChannelsValid (v : Value) (xs : List Channel) (n : Int) (w : World) (h : Rs w v xs) :
  Calls Try.prog 49 #[v, .int .i64 n] w fun e w' => e = .returned (.bool (M.csv xs n)) ∧ Ext w w' := by
 have e0 := zh ((Ext.refl w).alloc (.cells #[.int .i64 n] 3))
 have H := zh h
 obtain ⟨a, c, rfl, hl⟩ := h.form
 clear h
 cases h1 : M.inn n 0 5
 ·have hm := zh ((and_f h1).symm : _ = M.csv xs n)
  go_enter Try.func49, Try.ntmps49
  go_wp2_with (go_at_call 13; refine (impl_in _ _ _ _).mono ?_; rintro e w' ⟨rfl, rfl⟩)
  go_ret
  exact ⟨wp_cond_ret hm.out, e0.out⟩
 ·obtain ⟨hn1, hn2⟩ := M.inn_iff.1 h1
  have HX := zh (has_Channel 69 #[.pointer (some ⟨w.heap.size, 0, none⟩)] (fun x => !M.cv n x) _ xs _ (H.out.ext e0.out) (enter_of Try.func69 (by kernel_rfl) (by kernel_rfl))
   (fun w1 v x he _ hv => impl_ChannelsValid_1 v x _ n w1 hv (box_cell he).1 (box_cell he).2 hn1 hn2))
  by_cases h2 : xs.length ≤ 8
  ·have hm := zh ((not_any_not (M.cv n) xs).trans ((and_t h1).trans (and_t (decide_eq_true h2))).symm : _ = M.csv xs n)
   go_enter Try.func49, Try.ntmps49
   go_wp2_with (first | (go_at_call 13; refine (impl_in _ _ _ _).mono ?_; rintro e w' ⟨rfl, rfl⟩) | (go_at_call 68; refine HX.out.mono ?_; rintro e w' ⟨rfl, he⟩))
   go_ret
   exact ⟨wp_cond_ret hm.out, e0.out.tr he⟩
  ·have hm := zh (((and_t h1).trans (and_f (decide_eq_false h2))).symm : _ = M.csv xs n)
   go_enter Try.func49, Try.ntmps49
   go_wp2_with (go_at_call 13; refine (impl_in _ _ _ _).mono ?_; rintro e w' ⟨rfl, rfl⟩)
   go_ret
   exact ⟨wp_cond_ret hm.out, e0.out⟩
def M.cvs (n : Int) (c : Channel) : Bool := M.inn c.Kind 1 3 && (M.inn c.From 0 (n - 1) && (M.inn c.To 0 (n - 1) && (!(c.From == c.To) && (M.inn c.Size 1 4 && !(c.Kind == 1 && !(c.Size == 1))))))
theorem M.cvs_eq (n : Int) (c : Channel) : M.cvs n c = M.cv n c := by
 rw [Bool.eq_iff_iff, M.cv_iff]
 unfold M.cvs
 simp only [Bool.and_eq_true, M.inn_iff, Bool.not_eq_true', beq_eq_false_iff_ne, Bool.and_eq_false_iff, Bool.not_eq_false', beq_iff_eq]
 omega
theorem spec_ChannelsValid (v : Value) (xs : List Channel) (n : Int) (w : World) (h : Rs w v xs) :
    Calls Try.prog 33 #[v, .int .i64 n] w fun e w' => e = .returned (.bool (M.csv xs n)) ∧ Ext w w' := by
  obtain ⟨a, c, rfl, hl⟩ := h.form
  have H := zh h
  clear h
  cases h1 : M.inn n 0 5
  · have HN : Hid (M.csv xs n = false) := zh (and_f h1)
    go_enter Try.func33, Try.ntmps33
    go_wp2
    go_loopw [5, 6] (fun i _ wr => ∃ k : Nat, k ≤ xs.length ∧ i = .int .i64 k ∧ Ext w wr) (fun i _ _ => xs.length - (intOf i).toNat)
    case atStart => exact ⟨0, Nat.zero_le _, rfl, .refl _⟩
    case round =>
      obtain ⟨k, hk, rfl, hq⟩ := hrel
      have HQ := zh hq
      clear hq
      by_cases hlt : k < xs.length
      · obtain ⟨b, o, x, rfl, hb, hx, hc0, hc1, hc2, hc3, hr0, hr1, hr2, hr3, hv⟩ := (H.out.ext HQ.out).atChannel k hlt
        clear H
        go_wp2_with (go_at_call 17; refine (spec_In _ _ _ _).mono ?_; rintro e w' ⟨rfl, rfl⟩)
        all_goals first
          | (go_ret; exact ⟨wp_cond_ret HN.out.symm, (HQ.out.alloc _).set (Nat.le_trans HQ.out.sz (by simp)) _⟩)
          | (go_ret; exact ⟨wp_cond_ret HN.out.symm, HQ.out.alloc _⟩)
          | (go_roundw
             case rel => exact ⟨k + 1, by omega, by go_num, HQ.out.alloc _⟩
             case measure => simp [intOf]; omega)
      · clear H
        go_wp2_with (go_at_call 17; refine (spec_In _ _ _ _).mono ?_; rintro e w' ⟨rfl, rfl⟩)
        all_goals go_ret
        all_goals exact ⟨wp_cond_ret HN.out.symm, HQ.out⟩
  · obtain ⟨hn1, hn2⟩ := M.inn_iff.1 h1
    go_enter Try.func33, Try.ntmps33
    go_wp2
    go_loopw [5, 6] (fun i _ wr => ∃ k : Nat, k ≤ xs.length ∧ i = .int .i64 k ∧ (xs.take k).all (M.cv n) = true ∧ Ext w wr) (fun i _ _ => xs.length - (intOf i).toNat)
    case atStart => exact ⟨0, Nat.zero_le _, rfl, rfl, .refl _⟩
    case round =>
      obtain ⟨k, hk, rfl, he, hq⟩ := hrel
      have HE := zh he
      have HQ := zh hq
      clear he hq
      by_cases hlt : k < xs.length
      · obtain ⟨b, o, x, rfl, hb, hx, hc0, hc1, hc2, hc3, hr0, hr1, hr2, hr3, hv⟩ := (H.out.ext HQ.out).atChannel k hlt
        clear H
        have key : M.cv n x = false → M.csv xs n = false := fun hp => by unfold M.csv; rw [all_false_at (M.cv n) hx.out hp, Bool.and_false, Bool.and_false]
        rw [← M.cvs_eq] at key
        have hst := zh ((all_take_succ (M.cv n) hx.out).trans (by rw [HE.out, ← M.cvs_eq, Bool.true_and]))
        have KEY := zh key
        clear key
        cases g1 : M.inn x.Kind 1 3
        · have HN := zh (KEY.out (and_f g1))
          go_wp2_with (go_at_call 17; refine (spec_In _ _ _ _).mono ?_; rintro e w' ⟨rfl, rfl⟩)
          go_ret
          exact ⟨wp_cond_ret HN.out.symm, HQ.out.alloc _⟩
        · cases g2 : M.inn x.From 0 (n - 1)
          · have HN := zh (KEY.out ((and_t g1).trans (and_f g2)))
            go_wp2_with (go_at_call 17; refine (spec_In _ _ _ _).mono ?_; rintro e w' ⟨rfl, rfl⟩)
            go_ret
            exact ⟨wp_cond_ret HN.out.symm, HQ.out.alloc _⟩
          · cases g3 : M.inn x.To 0 (n - 1)
            · have HN := zh (KEY.out ((and_t g1).trans ((and_t g2).trans (and_f g3))))
              go_wp2_with (go_at_call 17; refine (spec_In _ _ _ _).mono ?_; rintro e w' ⟨rfl, rfl⟩)
              go_ret
              exact ⟨wp_cond_ret HN.out.symm, HQ.out.alloc _⟩
            · cases g4 : (x.From == x.To)
              · cases g5 : M.inn x.Size 1 4
                · have HN := zh (KEY.out ((and_t g1).trans ((and_t g2).trans ((and_t g3).trans ((and_t (not_f g4)).trans (and_f g5))))))
                  go_wp2_with (go_at_call 17; refine (spec_In _ _ _ _).mono ?_; rintro e w' ⟨rfl, rfl⟩)
                  go_ret
                  exact ⟨wp_cond_ret HN.out.symm, HQ.out.alloc _⟩
                · have hcvs : M.cvs n x = !(x.Kind == 1 && !(x.Size == 1)) := (and_t g1).trans ((and_t g2).trans ((and_t g3).trans ((and_t (not_f g4)).trans (and_t g5))))
                  cases g6 : (x.Kind == 1)
                  · have HN := zh ((hst.out.trans (hcvs.trans (by simp [g6]))) : _ = true)
                    clear hcvs
                    go_wp2_with (go_at_call 17; refine (spec_In _ _ _ _).mono ?_; rintro e w' ⟨rfl, rfl⟩)
                    go_roundw
                    case rel => exact ⟨k + 1, by omega, by go_num, HN.out, HQ.out.alloc _⟩
                    case measure => simp [intOf]; omega
                  · cases g7 : (x.Size == 1)
                    · have HN := zh (KEY.out (hcvs.trans (by simp [g6, g7])))
                      clear hcvs
                      go_wp2_with (go_at_call 17; refine (spec_In _ _ _ _).mono ?_; rintro e w' ⟨rfl, rfl⟩)
                      go_ret
                      exact ⟨wp_cond_ret HN.out.symm, HQ.out.alloc _⟩
                    · have HN := zh ((hst.out.trans (hcvs.trans (by simp [g6, g7]))) : _ = true)
                      clear hcvs
                      go_wp2_with (go_at_call 17; refine (spec_In _ _ _ _).mono ?_; rintro e w' ⟨rfl, rfl⟩)
                      go_roundw
                      case rel => exact ⟨k + 1, by omega, by go_num, HN.out, HQ.out.alloc _⟩
                      case measure => simp [intOf]; omega
              · have HN := zh (KEY.out ((and_t g1).trans ((and_t g2).trans ((and_t g3).trans (and_f (not_t g4))))))
                go_wp2_with (go_at_call 17; refine (spec_In _ _ _ _).mono ?_; rintro e w' ⟨rfl, rfl⟩)
                go_ret
                exact ⟨wp_cond_ret HN.out.symm, HQ.out.alloc _⟩
      · have HN : Hid (M.csv xs n = decide (xs.length ≤ 8)) := zh (by
          unfold M.csv; rw [← all_take_all (M.cv n) xs k (by omega), HE.out, Bool.and_true, h1, Bool.true_and])
        clear H
        by_cases hle : xs.length ≤ 8
        · go_wp2_with (go_at_call 17; refine (spec_In _ _ _ _).mono ?_; rintro e w' ⟨rfl, rfl⟩)
          go_ret
          exact ⟨wp_cond_ret (HN.out.trans (decide_eq_true hle)).symm, HQ.out⟩
        · go_wp2_with (go_at_call 17; refine (spec_In _ _ _ _).mono ?_; rintro e w' ⟨rfl, rfl⟩)
          go_ret
          exact ⟨wp_cond_ret (HN.out.trans (decide_eq_false hle)).symm, HQ.out⟩
noncomputable def M.setv (s : Setup) : Bool := M.psv s.Parts && (M.csv s.Channels s.Parts.length && M.ssv s.Slots s.Parts.length)
theorem impl_SetupValid (v : Value) (s : Setup) (w : World) (h : Rv w v s) :
  Calls Try.prog 25 #[v] w fun e w' => e = .returned (.bool (M.setv s)) ∧ Ext w w' := by
 obtain ⟨a0, c0, a1, c1, a2, c2, rfl, h0, hl0, h1, hl1, h2, hl2⟩ := h.openSetup
 clear h
 have e0 := zh ((Ext.refl w).alloc (.cells #[.slice a0 s.Parts.length c0, .slice a1 s.Channels.length c1, .slice a2 s.Slots.length c2] 27))
 cases g0 : M.psv s.Parts
 ·have hm := zh ((and_f g0).symm : _ = M.setv s)
  go_enter Try.func25, Try.ntmps25
  go_wp2_with fail
  refine (impl_PartsValid _ _ _ (h0.out.ext e0.out)).mono ?_
  rintro e w1 ⟨rfl, he1⟩
  have E1 := zh (e0.out.tr he1)
  clear he1
  go_wp2
  go_ret
  exact ⟨wp_cond_ret hm.out, E1.out⟩
 ·cases g1 : M.csv s.Channels s.Parts.length
  ·have hm := zh (((and_t g0).trans (and_f g1)).symm : _ = M.setv s)
   go_enter Try.func25, Try.ntmps25
   go_wp2_with fail
   refine (impl_PartsValid _ _ _ (h0.out.ext e0.out)).mono ?_
   rintro e w1 ⟨rfl, he1⟩
   have E1 := zh (e0.out.tr he1)
   obtain ⟨hcb, hfb⟩ := bcell he1
   go_wp2_with fail
   refine (impl_ChannelsValid _ _ _ _ (h1.out.ext E1.out)).mono ?_
   rintro e w2 ⟨rfl, he2⟩
   have E2 := zh (E1.out.tr he2)
   clear he1 he2 hcb hfb
   go_wp2
   go_ret
   exact ⟨wp_cond_ret hm.out, E2.out⟩
  ·have hm := zh (((and_t g0).trans (and_t g1)).symm : _ = M.setv s)
   go_enter Try.func25, Try.ntmps25
   go_wp2_with fail
   refine (impl_PartsValid _ _ _ (h0.out.ext e0.out)).mono ?_
   rintro e w1 ⟨rfl, he1⟩
   have E1 := zh (e0.out.tr he1)
   obtain ⟨hcb, hfb⟩ := bcell he1
   go_wp2_with fail
   refine (impl_ChannelsValid _ _ _ _ (h1.out.ext E1.out)).mono ?_
   rintro e w2 ⟨rfl, he2⟩
   have E2 := zh (E1.out.tr he2)
   obtain ⟨hcb2, hfb2⟩ := bcell (he1.tr he2)
   clear he1 he2 hcb hfb
   go_wp2_with fail
   refine (impl_SlotsValid _ _ _ _ (h2.out.ext E2.out)).mono ?_
   rintro e w3 ⟨rfl, he3⟩
   have E3 := zh (E2.out.tr he3)
   clear he3
   go_wp2
   go_ret
   exact ⟨wp_cond_ret hm.out, E3.out⟩
theorem spec_SetupValid (v : Value) (s : Setup) (w : World) (h : Rv w v s) :
  Calls Try.prog 14 #[v] w fun e w' => e = .returned (.bool (M.setv s)) ∧ Ext w w' := by
 obtain ⟨a0, c0, a1, c1, a2, c2, rfl, h0, hl0, h1, hl1, h2, hl2⟩ := h.openSetup
 clear h
 have e0 := zh ((Ext.refl w).alloc (.cells #[.slice a0 s.Parts.length c0, .slice a1 s.Channels.length c1, .slice a2 s.Slots.length c2] 27))
 cases g0 : M.psv s.Parts
 ·have hm := zh ((and_f g0).symm : _ = M.setv s)
  go_enter Try.func14, Try.ntmps14
  go_wp2_with fail
  refine (spec_PartsValid _ _ _ (h0.out.ext e0.out)).mono ?_
  rintro e w1 ⟨rfl, he1⟩
  have E1 := zh (e0.out.tr he1)
  clear he1
  go_wp2
  go_ret
  exact ⟨wp_cond_ret hm.out, E1.out⟩
 ·cases g1 : M.csv s.Channels s.Parts.length
  ·have hm := zh (((and_t g0).trans (and_f g1)).symm : _ = M.setv s)
   go_enter Try.func14, Try.ntmps14
   go_wp2_with fail
   refine (spec_PartsValid _ _ _ (h0.out.ext e0.out)).mono ?_
   rintro e w1 ⟨rfl, he1⟩
   have E1 := zh (e0.out.tr he1)
   obtain ⟨hcb, hfb⟩ := bcell he1
   go_wp2_with fail
   refine (spec_ChannelsValid _ _ _ _ (h1.out.ext E1.out)).mono ?_
   rintro e w2 ⟨rfl, he2⟩
   have E2 := zh (E1.out.tr he2)
   clear he1 he2 hcb hfb
   go_wp2
   go_ret
   exact ⟨wp_cond_ret hm.out, E2.out⟩
  ·have hm := zh (((and_t g0).trans (and_t g1)).symm : _ = M.setv s)
   go_enter Try.func14, Try.ntmps14
   go_wp2_with fail
   refine (spec_PartsValid _ _ _ (h0.out.ext e0.out)).mono ?_
   rintro e w1 ⟨rfl, he1⟩
   have E1 := zh (e0.out.tr he1)
   obtain ⟨hcb, hfb⟩ := bcell he1
   go_wp2_with fail
   refine (spec_ChannelsValid _ _ _ _ (h1.out.ext E1.out)).mono ?_
   rintro e w2 ⟨rfl, he2⟩
   have E2 := zh (E1.out.tr he2)
   obtain ⟨hcb2, hfb2⟩ := bcell (he1.tr he2)
   clear he1 he2 hcb hfb
   go_wp2_with fail
   refine (spec_SlotsValid _ _ _ _ (h2.out.ext E2.out)).mono ?_
   rintro e w3 ⟨rfl, he3⟩
   have E3 := zh (E2.out.tr he3)
   clear he3
   go_wp2
   go_ret
   exact ⟨wp_cond_ret hm.out, E3.out⟩
end Sk
