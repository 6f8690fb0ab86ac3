/- Contracts of functions of the given program, and lemmas for them: each theorem states the condition under which it holds. -/
import Derived.Test.YtaoflliekmhbeaaChecked
import Derived.Test.YtaoflliekmhbeaaApp
import Derived.Test.YtaoflliekmhbeaaScal
namespace Sk
open Go Go.Proofs Go.RowKit
set_option maxHeartbeats 400000
set_option maxRecDepth 100000
set_option linter.unusedVariables false
theorem szBoolS (v : Value) (xs : List Bool) (left : Int) (w : World) (h : Rs w v xs) (h2 : left ≤ 1048576) (h3 : 0 ≤ left) :
   Calls Try.prog 24 #[v, .int .i64 left] w fun e w' => (∃ r, e = .returned (.int .i64 r) ∧ -1 ≤ r ∧ r ≤ left ∧ (0 ≤ r → r = left - GT.tot xs)) ∧ w = w' := by
  have ht : GT.tot xs = xs.length := by
    have h0 : ∀ ys : List Bool, (ys.map fun _ => 0).sum = 0 := by intro ys; induction ys with
      | nil => rfl
      | cons y ys ih => simpa using ih
    show xs.length + (xs.map fun _ => 0).sum = xs.length
    rw [h0]; rfl
  obtain ⟨a, c, rfl, hl⟩ := h.form
  clear h
  go_enter Try.func24, Try.ntmps24
  go_wp2
  all_goals go_ret
  · exact ⟨⟨-1, rfl, by omega, by omega, by omega⟩, rfl⟩
  · exact ⟨⟨_, rfl, by omega, by omega, fun _ => by omega⟩, rfl⟩
theorem szBoolSS (v : Value) (xs : List (List Bool)) (left : Int) (w : World) (h : Rs w v xs) (h2 : left ≤ 1048576) (h3 : 0 ≤ left) :
   Calls Try.prog 7 #[v, .int .i64 left] w fun e w' => (∃ r, e = .returned (.int .i64 r) ∧ -1 ≤ r ∧ r ≤ left ∧ (0 ≤ r → r = left - GT.tot xs)) ∧ w = w' := by
  obtain ⟨a, c, rfl, hl⟩ := h.form
  have H := Lib.hid h
  clear h
  by_cases h1 : left - xs.length < 0
  · go_enter Try.func7, Try.ntmps7
    go_wp2
    go_ret
    exact ⟨⟨-1, rfl, by omega, by omega, by omega⟩, rfl⟩
  · go_enter Try.func7, Try.ntmps7
    go_wp2
    go_loop [1, 5] (fun l i => ∃ (k : Nat) (r : Int), k ≤ xs.length ∧ i = .int .i64 k ∧ l = .int .i64 r ∧ 0 ≤ r ∧ r ≤ left ∧ Hid (r = left - xs.length - totK xs k)) (fun _ i => xs.length - (intOf i).toNat)
    case atStart => exact ⟨0, left - xs.length, Nat.zero_le _, by go_num, by go_num, by omega, by omega, Lib.hid (by simp [totK_zero])⟩
    case round =>
      obtain ⟨k, r, hk, rfl, rfl, hr0, hr1, HS⟩ := hrel
      by_cases hlt : k < xs.length
      · obtain ⟨b, o, x, a', c', rfl, _, hx1, hc1, HR, hl'⟩ := H.out.atList k hlt
        clear H
        go_wp2_with (go_at_call 24; refine (szBoolS _ _ _ _ HR.out (by omega) (by omega)).mono ?_; rintro e w' ⟨⟨r', rfl, hr1, hr2, hr3⟩, rfl⟩; have HR3 := Lib.hid hr3; clear hr3)
        · go_ret
          exact ⟨⟨-1, rfl, by omega, by omega, by omega⟩, rfl⟩
        · go_round
          case rel =>
            refine ⟨k + 1, _, by omega, by go_num, rfl, by omega, by omega, Lib.hid ?_⟩
            have h1 := HR3.out (by omega)
            have h2 := HS.out
            have h3 := totK_succ hx1.out
            omega
          case measure => simp [intOf]; omega
      · obtain rfl : k = xs.length := by omega
        go_wp2
        go_ret
        exact ⟨⟨r, rfl, by omega, by omega, fun _ => by have h1 := HS.out; have h2 := totK_all xs; omega⟩, rfl⟩
theorem eqBoolS (v1 v2 : Value) (xs ys : List Bool) (w : World) (h1 : Rs w v1 xs) (h2 : Rs w v2 ys) :
   Calls Try.prog 28 #[v1, v2] w fun e w' => e = .returned (.bool (Eqb xs ys)) ∧ Qt w w' := by
  obtain ⟨a, c, rfl, hl⟩ := h1.form
  obtain ⟨a2, c2, rfl, hl2⟩ := h2.form
  by_cases hne : xs.length = ys.length
  · have H := Lib.hid hne
    rw [← hne] at h2 hl2 ⊢
    clear hne
    have H1 := Lib.hid h1
    have H2 := Lib.hid h2
    clear h1 h2
    go_enter Try.func28, Try.ntmps28
    go_wp2
    go_loopw [5] (fun i wr => ∃ k : Nat, k ≤ xs.length ∧ i = .int .i64 k ∧ xs.take k = ys.take k ∧ Qt w wr) (fun i _ => xs.length - (intOf i).toNat)
    case atStart => exact ⟨0, Nat.zero_le _, rfl, rfl, .refl _⟩
    case round =>
      obtain ⟨k, hk, rfl, he, hq⟩ := hrel
      have HE := Lib.hid he
      have HQ := Lib.hid hq
      clear he hq
      by_cases hlt : k < xs.length
      · obtain ⟨b, o, x, rfl, _, hx1, hc1⟩ := (H1.out.ext HQ.out.ext).atBool k hlt
        obtain ⟨b2, o2, y, rfl, _, hx2, hc2⟩ := (H2.out.ext HQ.out.ext).atBool k (by have := H.out; omega)
        clear H1 H2
        by_cases hx : x = y
        · subst hx
          go_wp2
          go_quiet (fail)
          go_wp2
          go_roundw
          case rel => exact ⟨k + 1, by omega, by go_num, take_eq_succ hx1.out hx2.out HE.out, HQ.out.tr (.mk _)⟩
          case measure => simp [intOf]; omega
        · have hxy : (!x == y) = true := by simpa using hx
          have HN := Lib.hid (Eqb.f (ne_at hx1.out hx2.out hx))
          clear hx
          go_wp2
          go_quiet (fail)
          go_wp2
          go_ret
          exact ⟨wp_cond_ret HN.out.symm, HQ.out.tr (.mk _)⟩
      · have HN := Lib.hid (Eqb.t (take_eq_all xs ys k H.out (by omega) HE.out))
        clear H1 H2
        go_wp2
        go_ret
        exact ⟨wp_cond_ret HN.out.symm, HQ.out⟩
  · have HN := Lib.hid (Eqb.f (fun h => hne (by rw [h]) : xs ≠ ys))
    have hb : decide (xs.length = ys.length) = false := by simpa using hne
    clear h1 h2
    go_enter Try.func28, Try.ntmps28
    go_wp2
    all_goals go_ret
    all_goals exact ⟨wp_cond_ret HN.out.symm, .refl _⟩
theorem info_bool : (Try.prog.info? 4).map (fun i => (i.zero, i.size, i.bytes)) = some (some (.bool false), 1, 1) := by kernel_rfl
theorem info_bools : (Try.prog.info? 30).map (fun i => (i.zero, i.size, i.bytes)) = some (some (.slice none 0 0), 1, 24) := by kernel_rfl
theorem toBoolS (v : Value) (xs : List Bool) (w : World) (h : Rs w v xs) (hn : xs.length ≤ 2000000) :
   Calls Try.prog 26 #[v] w fun e w' => ∃ v', e = .returned v' ∧ Os w.heap.size w' v' xs ∧ Ext w w' := by
  obtain ⟨a, c, rfl, hl⟩ := h.form
  obtain ⟨i0, hi, hz0, hz1, hz2⟩ := info_parts info_bool
  have hmk : ∀ u : World, (Instr.makeSlice 30 (.int .i64 xs.length) (.int .i64 xs.length)).run Try.prog u =
      .ok (.slice (some ⟨u.heap.size, 0, none⟩) xs.length xs.length) (u.alloc (.cells (madeCells #[.bool false] (xs.length * 1)) 4)) := fun u => by
    have h := run_make (P := Try.prog) u 30 4 i0 (.bool false) Try.underlying30 hi hz0 .i64 .i64 xs.length xs.length (by omega) (Int.le_refl _) (by rw [hz2]; omega) (by omega)
    simpa [hz1, Value.cells] using h
  have H := Lib.hid h
  clear h hi hz0 hz1 hz2
  go_enter Try.func26, Try.ntmps26
  go_wp2
  go_loopw [4] (fun i wr => ∃ k : Nat, k ≤ xs.length ∧ i = .int .i64 k ∧ Os w.heap.size wr (.slice (some ⟨w.heap.size, 0, none⟩) xs.length xs.length) (xs.take k ++ List.replicate (xs.length - k) false) ∧ Ext w wr) (fun i _ => xs.length - (intOf i).toNat)
  case atStart => exact ⟨0, Nat.zero_le _, rfl, by have := Os.made (α := Bool) w xs.length 4 #[.bool false] false rfl rfl hl; simpa [GT.sz] using this, (Ext.refl w).alloc _⟩
  case round =>
    obtain ⟨k, hk, rfl, hb, he⟩ := hrel
    by_cases hlt : k < xs.length
    · obtain ⟨b, o, x, rfl, _, hx, hc1⟩ := (H.out.ext he).atBool k hlt
      obtain ⟨b2, o2, cs, F, x0, hb2, _, hL, ⟨rfl, _⟩, hat, hf2⟩ := hb.at k (by simp; omega)
      cases hb2
      have hc2 := hat 0 _ rfl
      have hf2 := hf2 k
      simp only [GT.sz, Nat.mul_one, Nat.add_zero, Nat.zero_add] at hc2
      have HB := Lib.hid (hb.put (i := k) (Ext.refl _) (by simp; omega) he.sz ⟨[], ⟨rfl, rfl⟩, Own.nil _ _⟩ : Os _ (putCells wr _ (0 + k * GT.sz Bool) [.bool x]) _ _)
      have HE := Lib.hid he
      clear hb he hat H
      go_wp2
      go_roundw
      case rel =>
        refine ⟨k + 1, by omega, by go_num, ?_, HE.out.set (Nat.le_refl _) _⟩
        have := HB.out
        rw [set_fill _ _ _ _ _ hlt (by simp; omega), ← take_snoc hx.out] at this
        simpa [putCells, GT.sz] using this
      case measure => simp [intOf]; omega
    · obtain rfl : k = xs.length := by omega
      go_wp2
      go_ret
      exact ⟨_, rfl, by simpa using hb, he⟩
theorem toBoolSS (v : Value) (xs : List (List Bool)) (w : World) (h : Rs w v xs) (hn : GT.tot xs ≤ 1048576) :
   Calls Try.prog 9 #[v] w fun e w' => ∃ v', e = .returned v' ∧ Os w.heap.size w' v' xs ∧ Ext w w' := by
  obtain ⟨a, c, rfl, hl⟩ := h.form
  have hn1 : xs.length ≤ 1048576 := Nat.le_trans tot_len hn
  obtain ⟨i0, hi, hz0, hz1, hz2⟩ := info_parts info_bools
  have hmk : ∀ u : World, (Instr.makeSlice 22 (.int .i64 xs.length) (.int .i64 xs.length)).run Try.prog u =
      .ok (.slice (some ⟨u.heap.size, 0, none⟩) xs.length xs.length) (u.alloc (.cells (madeCells #[.slice none 0 0] (xs.length * 1)) 30)) := fun u => by
    have h := run_make (P := Try.prog) u 22 30 i0 (.slice none 0 0) Try.underlying22 hi hz0 .i64 .i64 xs.length xs.length (by omega) (Int.le_refl _) (by rw [hz2]; omega) (by omega)
    simpa [hz1, Value.cells] using h
  have H := Lib.hid h
  have HN := Lib.hid hn
  clear h hn hi hz0 hz1 hz2
  go_enter Try.func9, Try.ntmps9
  go_wp2
  go_loopw [4] (fun i wr => ∃ k : Nat, k ≤ xs.length ∧ i = .int .i64 k ∧ Os w.heap.size wr (.slice (some ⟨w.heap.size, 0, none⟩) xs.length xs.length) (xs.take k ++ List.replicate (xs.length - k) []) ∧ Ext w wr) (fun i _ => xs.length - (intOf i).toNat)
  case atStart => exact ⟨0, Nat.zero_le _, rfl, by have := Os.made (α := List Bool) w xs.length 30 #[.slice none 0 0] [] rfl rfl hl; simpa [GT.sz] using this, (Ext.refl w).alloc _⟩
  case round =>
    obtain ⟨k, hk, rfl, hb, he⟩ := hrel
    have HB := Lib.hid hb
    have HE := Lib.hid he
    clear hb he
    by_cases hlt : k < xs.length
    · obtain ⟨b, o, x, a', c', rfl, _, hx, hc1, HR, hl'⟩ := (H.out.ext HE.out).atList k hlt
      have hxn : x.length ≤ 1048576 := by have h1 := tot_at hx.out; have h2 := tot_len (xs := x); have h3 := HN.out; omega
      clear H HN
      go_wp2_with fail
      refine (toBoolS _ _ _ HR.out (by omega)).mono ?_
      rintro e w1 ⟨v', rfl, ho', he'⟩
      obtain ⟨b2, o2, cs, F, x0, hb2, _, hL, ⟨v0, rfl, _⟩, hat, hf2⟩ := (HB.out.ext he').at k (by simp; omega)
      cases hb2
      have hc2 := hat 0 _ rfl
      have hf2 := hf2 k
      simp only [GT.sz, Nat.mul_one, Nat.add_zero, Nat.zero_add] at hc2
      have HB2 := Lib.hid (HB.out.put (i := k) he' (by simp; omega) HE.out.sz ho'.ow)
      have HE2 := Lib.hid (HE.out.tr he')
      obtain ⟨av, cv, rfl, hlv⟩ := ho'.form
      clear HB HE he' ho' hat
      go_wp2
      go_roundw
      case rel =>
        refine ⟨k + 1, by omega, by go_num, ?_, HE2.out.set (Nat.le_refl _) _⟩
        have := HB2.out
        rw [set_fill _ _ _ _ _ hlt (by simp; omega), ← take_snoc hx.out] at this
        simpa [putCells, GT.sz] using this
      case measure => simp [intOf]; omega
    · obtain rfl : k = xs.length := by omega
      go_wp2
      go_ret
      exact ⟨_, rfl, by simpa using HB.out, HE.out⟩
theorem eqBoolSS (v1 v2 : Value) (xs ys : List (List Bool)) (w : World) (h1 : Rs w v1 xs) (h2 : Rs w v2 ys) :
   Calls Try.prog 11 #[v1, v2] w fun e w' => e = .returned (.bool (Eqb xs ys)) ∧ Qt w w' := by
  obtain ⟨a, c, rfl, hl⟩ := h1.form
  obtain ⟨a2, c2, rfl, hl2⟩ := h2.form
  by_cases hne : xs.length = ys.length
  · have H := Lib.hid hne
    rw [← hne] at h2 hl2 ⊢
    clear hne
    have H1 := Lib.hid h1
    have H2 := Lib.hid h2
    clear h1 h2
    go_enter Try.func11, Try.ntmps11
    go_wp2
    go_loopw [5] (fun i wr => ∃ k : Nat, k ≤ xs.length ∧ i = .int .i64 k ∧ xs.take k = ys.take k ∧ Qt w wr) (fun i _ => xs.length - (intOf i).toNat)
    case atStart => exact ⟨0, Nat.zero_le _, rfl, rfl, .refl _⟩
    case round =>
      obtain ⟨k, hk, rfl, he, hq⟩ := hrel
      have HE := Lib.hid he
      have HQ := Lib.hid hq
      clear he hq
      by_cases hlt : k < xs.length
      · obtain ⟨b, o, x, ax, cx, rfl, _, hx1, hc1, hr1, hlx⟩ := (H1.out.ext HQ.out.ext).atList k hlt
        obtain ⟨b2, o2, y, ay, cy, rfl, _, hx2, hc2, hr2, hly⟩ := (H2.out.ext HQ.out.ext).atList k (by have := H.out; omega)
        clear H1 H2
        have HC : ∀ m, Hid (Calls Try.prog 28 #[.slice ax x.length cx, .slice ay y.length cy] (wr.drewN m) fun e w' => e = .returned (.bool (Eqb x y)) ∧ Qt (wr.drewN m) w') :=
          fun m => eqBoolS _ _ _ _ _ (hr1.out.ext ((Ext.refl wr).drewN m)) (hr2.out.ext ((Ext.refl wr).drewN m))
        by_cases hx : Eqb x y = true
        · have HX := Lib.hid (take_eq_succ hx1.out (Eqb.iff.1 hx ▸ hx2.out) HE.out)
          go_wp2
          go_quiet ((go_at_call 28; exact Qt.call (HC _).out))
          go_wp2
          go_roundw
          case rel => exact ⟨k + 1, by omega, by go_num, HX.out, HQ.out.tr (.mk _)⟩
          case measure => simp [intOf]; omega
        · have HN := Lib.hid (Eqb.f (ne_at hx1.out hx2.out (fun e => hx (Eqb.t e))))
          rw [Bool.not_eq_true] at hx
          go_wp2
          go_quiet ((go_at_call 28; exact Qt.call (HC _).out))
          go_wp2
          go_ret
          exact ⟨wp_cond_ret HN.out.symm, HQ.out.tr (.mk _)⟩
      · have HN := Lib.hid (Eqb.t (take_eq_all xs ys k H.out (by omega) HE.out))
        clear H1 H2
        go_wp2
        go_ret
        exact ⟨wp_cond_ret HN.out.symm, HQ.out⟩
  · have HN := Lib.hid (Eqb.f (fun h => hne (by rw [h]) : xs ≠ ys))
    have hb : decide (xs.length = ys.length) = false := by simpa using hne
    clear h1 h2
    go_enter Try.func11, Try.ntmps11
    go_wp2
    all_goals go_ret
    all_goals exact ⟨wp_cond_ret HN.out.symm, .refl _⟩
def M.PV (p : List (List Bool)) (n : Int) : Prop := (p.length : Int) = n ∧ 0 ≤ n ∧ n ≤ 5 ∧ ∀ (j : Nat) (r : List Bool), p[j]? = some r → ((r : List Bool).length : Int) = n ∧ r[j]? = some true
noncomputable def M.pv (p : List (List Bool)) (n : Int) : Bool := Bo (M.PV p n)
theorem specPolicyValid (v : Value) (p : List (List Bool)) (n : Int) (w : World) (h : Rs w v p) :
   Calls Try.prog 8 #[v, .int .i64 n] w fun e w' => e = .returned (.bool (M.pv p n)) ∧ Qt w w' := by
  obtain ⟨a, c, rfl, hl⟩ := h.form
  have H := Lib.hid h
  clear h
  by_cases h1 : (p.length : Int) = n ∧ 0 ≤ n ∧ n ≤ 5
  · obtain ⟨rfl, h2, h3⟩ := h1
    have hin := M.inn_t h2 h3
    go_enter Try.func8, Try.ntmps8
    go_wp2_with (go_at_call 25; refine (spec_In _ _ _ _).mono ?_; rintro e w' ⟨rfl, rfl⟩)
    go_loopw [5] (fun i wr => ∃ k : Nat, k ≤ p.length ∧ i = .int .i64 k ∧ (∀ (j : Nat) (r : List Bool), j < k → p[j]? = some r → ((r : List Bool).length : Int) = p.length ∧ r[j]? = some true) ∧ Qt w wr) (fun i _ => p.length - (intOf i).toNat)
    case atStart => exact ⟨0, Nat.zero_le _, rfl, fun _ _ h => by omega, .refl _⟩
    case round =>
      obtain ⟨k, hk, rfl, he, hq⟩ := hrel
      have HE := Lib.hid he
      have HQ := Lib.hid hq
      clear he hq
      by_cases hlt : k < p.length
      · obtain ⟨b, o, x, a', c', rfl, _, hx, hc1, hr, hlx⟩ := (H.out.ext HQ.out.ext).atList k hlt
        clear H
        by_cases hxl : x.length = p.length
        · obtain ⟨b2, o2, y, rfl, _, hy, hc2⟩ := hr.out.atBool k (by omega)
          have HX := Lib.hid hxl
          rw [hxl] at hc1
          clear hxl
          cases y
          · have HN : Hid (M.pv p p.length = false) := Lib.hid (Bo.f fun h => by have := (h.2.2.2 k x hx.out).2; rw [hy.out] at this; cases this)
            go_wp2
            all_goals go_ret
            all_goals exact ⟨wp_cond_ret HN.out.symm, HQ.out⟩
          · go_wp2
            go_roundw
            case rel =>
              refine ⟨k + 1, by omega, by go_num, fun j r hj hr' => ?_, HQ.out⟩
              by_cases hjk : j = k
              · subst hjk; rw [hx.out] at hr'; cases hr'; exact ⟨by rw [HX.out], hy.out⟩
              · exact HE.out j r (by omega) hr'
            case measure => simp [intOf]; omega
        · have HN : Hid (M.pv p p.length = false) := Lib.hid (Bo.f fun h => by have := (h.2.2.2 k x hx.out).1; omega)
          have hb : decide (x.length = p.length) = false := by simpa using hxl
          go_wp2
          all_goals go_ret
          all_goals exact ⟨wp_cond_ret HN.out.symm, HQ.out⟩
      · have HN : Hid (M.pv p p.length = true) := Lib.hid (Bo.t ⟨rfl, h2, h3, fun j r hr => HE.out j r (by have := lt_of_some hr; omega) hr⟩)
        go_wp2
        go_ret
        exact ⟨wp_cond_ret HN.out.symm, HQ.out⟩
  · have HN : Hid (M.pv p n = false) := Lib.hid (Bo.f fun h => h1 ⟨h.1, h.2.1, h.2.2.1⟩)
    by_cases h2 : (p.length : Int) = n
    · have hin : M.inn n 0 5 = false := M.inn_f fun h => h1 ⟨h2, h⟩
      subst h2
      clear h1
      go_enter Try.func8, Try.ntmps8
      go_wp2_with (go_at_call 25; refine (spec_In _ _ _ _).mono ?_; rintro e w' ⟨rfl, rfl⟩)
      go_ret
      exact ⟨wp_cond_ret HN.out.symm, .refl _⟩
    · have hb : ((p.length : Int) == n) = false := by simpa using h2
      clear h1
      go_enter Try.func8, Try.ntmps8
      go_wp2_with (go_at_call 25; refine (spec_In _ _ _ _).mono ?_; rintro e w' ⟨rfl, rfl⟩)
      all_goals go_ret
      all_goals exact ⟨wp_cond_ret HN.out.symm, .refl _⟩
theorem implPolicyValid (v : Value) (p : List (List Bool)) (n : Int) (w : World) (h : Rs w v p) :
   Calls Try.prog 10 #[v, .int .i64 n] w fun e w' => e = .returned (.bool (M.pv p n)) ∧ Qt w w' := by
  obtain ⟨a, c, rfl, hl⟩ := h.form
  have H := Lib.hid h
  clear h
  by_cases h1 : (p.length : Int) = n ∧ 0 ≤ n ∧ n ≤ 5
  · obtain ⟨rfl, h2, h3⟩ := h1
    have hin := M.inn_t h2 h3
    go_enter Try.func10, Try.ntmps10
    go_wp2_with (go_at_call 27; refine (impl_in _ _ _ _).mono ?_; rintro e w' ⟨rfl, rfl⟩)
    go_loopw [5, 6, 18] (fun _ _ i wr => ∃ k : Nat, k ≤ p.length ∧ i = .int .i64 k ∧ (∀ (j : Nat) (r : List Bool), j < k → p[j]? = some r → (r.length : Int) = p.length ∧ r[j]? = some true) ∧ Qt w wr) (fun _ _ i _ => p.length - (intOf i).toNat)
    case atStart => exact ⟨0, Nat.zero_le _, rfl, fun _ _ h => by omega, .refl _⟩
    case round =>
      obtain ⟨k, hk, rfl, he, hq⟩ := hrel
      have HE := Lib.hid he
      have HQ := Lib.hid hq
      clear he hq
      by_cases hlt : k < p.length
      · obtain ⟨b, o, x, a', c', rfl, _, hx, hc1, hr, hlx⟩ := (H.out.ext HQ.out.ext).atList k hlt
        clear H
        by_cases hxl : x.length = p.length
        · obtain ⟨b2, o2, y, rfl, _, hy, hc2⟩ := hr.out.atBool k (by omega)
          have HX := Lib.hid hxl
          rw [hxl] at hc1
          clear hxl
          cases y
          · have HN : Hid (M.pv p p.length = false) := Lib.hid (Bo.f fun h => by have := (h.2.2.2 k x hx.out).2; rw [hy.out] at this; cases this)
            go_wp2
            all_goals go_ret
            all_goals exact ⟨wp_cond_ret HN.out.symm, HQ.out⟩
          · go_wp2
            go_roundw
            case rel =>
              refine ⟨k + 1, by omega, by go_num, fun j r hj hr' => ?_, HQ.out⟩
              by_cases hjk : j = k
              · subst hjk; rw [hx.out] at hr'; cases hr'; exact ⟨by rw [HX.out], hy.out⟩
              · exact HE.out j r (by omega) hr'
            case measure => simp [intOf]; omega
        · have HN : Hid (M.pv p p.length = false) := Lib.hid (Bo.f fun h => by have := (h.2.2.2 k x hx.out).1; omega)
          have hb : decide (x.length = p.length) = false := by simpa using hxl
          go_wp2
          all_goals go_ret
          all_goals exact ⟨wp_cond_ret HN.out.symm, HQ.out⟩
      · have HN : Hid (M.pv p p.length = true) := Lib.hid (Bo.t ⟨rfl, h2, h3, fun j r hr => HE.out j r (by have := lt_of_some hr; omega) hr⟩)
        go_wp2
        go_ret
        exact ⟨wp_cond_ret HN.out.symm, HQ.out⟩
  · have HN : Hid (M.pv p n = false) := Lib.hid (Bo.f fun h => h1 ⟨h.1, h.2.1, h.2.2.1⟩)
    by_cases h2 : M.inn n 0 5 = true
    · have hb : ((p.length : Int) == n) = false := by simp; intro e; exact h1 ⟨e, M.inn_iff.1 h2⟩
      clear h1
      go_enter Try.func10, Try.ntmps10
      go_wp2_with (go_at_call 27; refine (impl_in _ _ _ _).mono ?_; rintro e w' ⟨rfl, rfl⟩)
      go_ret
      exact ⟨wp_cond_ret HN.out.symm, .refl _⟩
    · rw [Bool.not_eq_true] at h2
      clear h1
      go_enter Try.func10, Try.ntmps10
      go_wp2_with (go_at_call 27; refine (impl_in _ _ _ _).mono ?_; rintro e w' ⟨rfl, rfl⟩)
      all_goals go_ret
      all_goals exact ⟨wp_cond_ret HN.out.symm, .refl _⟩
theorem lawExactPolicyValid (v : Value) (p : List (List Bool)) (n : Int) (w : World) (h : Rs w v p) :
   Calls Try.prog 3 #[v, .int .i64 n] w fun e w' => e = .returned (.bool true) ∧ Ext w w' := by
  obtain ⟨a, c, rfl, hl⟩ := h.form
  have H := Lib.hid h
  clear h
  go_enter Try.func3, Try.ntmps3
  go_wp2_with (go_at_call 7; refine (szBoolSS _ _ _ _ H.out (by omega) (by omega)).mono ?_; rintro e w' ⟨⟨r, rfl, hr1, hr2, hr3⟩, rfl⟩; have HR := Lib.hid hr3; clear hr3)
  · go_ret
    exact ⟨rfl, .refl _⟩
  · have hs : Hid (GT.tot p ≤ 1048576) := Lib.hid (by have := HR.out (by omega); omega)
    refine (toBoolSS _ _ _ H.out hs.out).mono ?_
    rintro e w1 ⟨v1, rfl, h1, he1⟩
    have H1 := Lib.hid h1
    have E1 := Lib.hid he1
    clear h1 he1
    go_wp2_with (go_at_call 8; refine (specPolicyValid _ _ _ _ H1.out.rs).mono ?_; rintro e w2 ⟨rfl, hq2⟩; have E2 := Lib.hid (E1.out.tr hq2.ext); clear hq2)
    refine (toBoolSS _ _ _ (H.out.ext E2.out) hs.out).mono ?_
    rintro e w3 ⟨v3, rfl, h3, he3⟩
    have H3 := Lib.hid h3
    have E3 := Lib.hid (E2.out.tr he3)
    clear h3 he3
    go_wp2_with (go_at_call 10; refine (implPolicyValid _ _ _ _ H3.out.rs).mono ?_; rintro e w4 ⟨rfl, hq4⟩; have H4 := Lib.hid (H3.out.rs.ext hq4.ext); have E4 := Lib.hid (E3.out.tr hq4.ext); clear hq4)
    refine (toBoolSS _ _ _ (H.out.ext E4.out) hs.out).mono ?_
    rintro e w5 ⟨v5, rfl, h5, he5⟩
    have H5 := Lib.hid h5
    have E5 := Lib.hid (E4.out.tr he5)
    have H4' := Lib.hid (H4.out.ext he5)
    have hb := Eqb.t (rfl : p = p)
    clear h5 he5
    go_wp2_with (go_at_call 11; refine (eqBoolSS _ _ _ _ _ H4'.out H5.out.rs).mono ?_; rintro e w6 ⟨rfl, hq6⟩; have E6 := Lib.hid (E5.out.tr hq6.ext); clear hq6)
    go_ret
    exact ⟨rfl, E6.out⟩
end Sk

