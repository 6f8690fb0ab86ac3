/- Contracts of functions of the given program, and lemmas for them: each theorem states the condition under which it holds. -/
import Derived.Test.YtmkibejcdldjeaaChecked
import Derived.Deep.CutBlock
import Derived.Deep.CutRange
import Derived.Test.YtmkibejcdldjeaaFaultJ
import Derived.Test.YtmkibejcdldjeaaFaultI
import Derived.Test.YtmkibejcdldjeaaNums
import Derived.Test.YtmkibejcdldjeaaBuild
import Derived.Test.YtmkibejcdldjeaaClash
import Derived.Test.YtmkibejcdldjeaaClashS
import Derived.Test.YtmkibejcdldjeaaAcc
import Derived.Test.YtmkibejcdldjeaaDrawB
namespace Sk
open Go Go.Proofs Go.RowKit
set_option maxHeartbeats 2000000
set_option maxRecDepth 100000
set_option linter.unusedVariables false
set_option linter.unusedSimpArgs false
def M.fpick (bs : List Bool) (k : Nat) : List Int := ((List.range 4).take k).flatMap fun (i : Nat) => M.flt (bs.getD i false) ((i : Int) + 1)
theorem M.flt_len (b : Bool) (n : Int) : (M.flt b n).length ≤ 1 := by unfold M.flt; split <;> simp
theorem M.fpick_len (bs : List Bool) (k : Nat) : (M.fpick bs k).length ≤ 4 := fm_len (fun (i : Nat) => M.flt (bs.getD i false) ((i : Int) + 1)) 1 4 k (fun i => M.flt_len _ _)
theorem M.fpick_next {bs : List Bool} {k : Nat} (h : k < 4) : M.fpick bs (k + 1) = M.fpick bs k ++ M.flt (bs.getD k false) ((k : Int) + 1) :=
  range_fm (fun (i : Nat) => M.flt (bs.getD i false) ((i : Int) + 1)) h
theorem M.faults_pick {s : Setup} (h : M.setv s = true) : M.faults s = M.fpick [!M.apart s.Parts, M.slotless s, M.tight s, M.twice s] 4 := by
  rw [M.faults_t h]
  simp [M.fpick, List.range_succ]
theorem four_at (a b c d : Bool) {k : Nat} (h : k < 4) : ∃ q, [Value.bool a, .bool b, .bool c, .bool d][k]? = some (.bool q) ∧ [a, b, c, d].getD k false = q := by
  obtain rfl | rfl | rfl | rfl : k = 0 ∨ k = 1 ∨ k = 2 ∨ k = 3 := by omega
  all_goals exact ⟨_, rfl, rfl⟩
theorem impl_PartsApart (v : Value) (ps : List Part) (w : World) (h : Rs w v ps) :
    Calls Try.prog 20 #[v] w fun e w' => e = .returned (.bool (M.psv ps && M.apart ps)) ∧ Ext w w' := by
  obtain ⟨a, c, rfl, hl⟩ := h.form
  have H := Lib.hid h
  clear h
  cases g : M.psv ps
  · go_enter Try.func20, Try.ntmps20
    go_wp2_with (go_at_call 34; refine (impl_PartsValid _ ps w H.out).mono ?_; rintro e w1 ⟨rfl, he⟩; rw [g]; have HE1 := Lib.hid he; clear he)
    go_ret
    exact ⟨rfl, HE1.out⟩
  · have G := Lib.hid g
    clear g
    go_enter Try.func20, Try.ntmps20
    go_wp2_with (first
      | (go_at_call 34; refine (impl_PartsValid _ ps w H.out).mono ?_; rintro e w1 ⟨rfl, he⟩; rw [G.out]; have HE1 := Lib.hid he; clear he)
      | (go_at_call 44; refine (impl_apart _ ps w1 (H.out.ext HE1.out) G.out).mono ?_; rintro e w2 ⟨rfl, he⟩; have HE2 := Lib.hid (HE1.out.tr he); clear he))
    go_ret
    exact ⟨rfl, HE2.out⟩
theorem impl_SetupFaults (v : Value) (s : Setup) (w : World) (h : Rv w v s) :
    Calls Try.prog 18 #[v] w fun e w' => ∃ v', e = .returned v' ∧ Os w.heap.size w' v' (M.faults s) ∧ Ext w w' := by
  have H := Lib.hid h
  obtain ⟨a0, c0, a1, c1, a2, c2, rfl, h0, hl0, h1, hl1, h2, hl2⟩ := h.openSetup
  clear h h1 h2
  have e0 := Lib.hid ((Ext.refl w).alloc (.cells #[.slice a0 s.Parts.length c0, .slice a1 s.Channels.length c1, .slice a2 s.Slots.length c2] 27))
  cases g : M.setv s
  · have hm : Hid (M.faults s = []) := Lib.hid (M.faults_f g)
    go_enter Try.func18, Try.ntmps18
    go_wp2_with (go_at_call 14; refine (impl_SetupValid _ s _ (H.out.ext e0.out)).mono ?_; rintro e w1 ⟨he, he1⟩; rw [g] at he; subst he; have E1 := Lib.hid (e0.out.tr he1); clear he1)
    go_ret
    exact ⟨_, rfl, by rw [hm.out]; exact (Oa.nil 3 w.heap.size _).os (Own.nil _ _), E1.out⟩
  have hm := Lib.hid (M.faults_pick g)
  have hp5 := M.setv_parts g
  have h12 := M.setv_slots g
  have hpv : M.psv s.Parts = true := by unfold M.setv at g; exact (Bool.and_eq_true_iff.1 g).1
  replace g := Lib.hid g
  replace hpv := Lib.hid hpv
  go_enter Try.func18, Try.ntmps18
  go_upto_region 4 with (go_at_call 14; refine (impl_SetupValid _ s _ (H.out.ext e0.out)).mono ?_; rintro e w1 ⟨rfl, he1⟩; rw [g.out]; have E1 := Lib.hid (e0.out.tr he1); obtain ⟨hz, x0, x1, x2⟩ := box3 he1; clear he1)
  obtain ⟨ap, hap⟩ : ∃ p, M.apart s.Parts = p := ⟨_, rfl⟩
  obtain ⟨sl, hsl⟩ : ∃ p, M.slotless s = p := ⟨_, rfl⟩
  obtain ⟨ti, hti⟩ : ∃ p, M.tight s = p := ⟨_, rfl⟩
  obtain ⟨tw, htw⟩ : ∃ p, M.twice s = p := ⟨_, rfl⟩
  rw [hap, hsl, hti, htw] at hm
  replace hap := Lib.hid hap
  replace hsl := Lib.hid hsl
  replace hti := Lib.hid hti
  replace htw := Lib.hid htw
  have H1 := Lib.hid (H.out.ext E1.out)
  go_region_held3 (fun u => u.cell? ⟨w.heap.size, 0, none⟩ = some (.slice a0 s.Parts.length c0) ∧ u.cell? ⟨w.heap.size, 1, none⟩ = some (.slice a1 s.Channels.length c1) ∧ u.cell? ⟨w.heap.size, 2, none⟩ = some (.slice a2 s.Slots.length c2))
    (first
      | go_keep
      | exact ⟨(cell_ext HE.out hz).trans x0, (cell_ext HE.out hz).trans x1, (cell_ext HE.out hz).trans x2⟩
      | exact ⟨(cell_ext (HE.out.alloc _) hz).trans x0, (cell_ext (HE.out.alloc _) hz).trans x1, (cell_ext (HE.out.alloc _) hz).trans x2⟩)
    (first
      | (go_at_call 47; refine (impl_twice _ s _ (H1.out.ext HE.out)).mono ?_; rintro e w5 ⟨rfl, he⟩; rw [htw.out]; replace HE := Lib.hid (HE.out.tr he); clear he)
      | (go_at_call 46; refine (impl_tight _ s _ (H1.out.ext HE.out) h12).mono ?_; rintro e w4 ⟨rfl, he⟩; rw [hti.out]; replace HE := Lib.hid (HE.out.tr he); clear he)
      | (go_at_call 45; refine (impl_slotless _ s _ (H1.out.ext HE.out) hp5).mono ?_; rintro e w3 ⟨rfl, he⟩; rw [hsl.out]; replace HE := Lib.hid (HE.out.tr he); clear he)
      | (go_at_call 44; refine (impl_apart _ s.Parts _ (h0.out.ext (E1.out.tr (Ext.refl w1).drew)) hpv.out).mono ?_; rintro e w2 ⟨rfl, he⟩; rw [hap.out]; have HE : Hid (Ext w1 w2) := Lib.hid ((Ext.refl w1).drew.tr he); clear he))
  go_upto_block 0 with (fail)
  refine abs_world (fun W => Ext w1 W ∧ Bk W w5.heap.size [.bool (!ap), .bool sl, .bool ti, .bool tw] 4) ⟨HE.out.alloc _, Bk.new _ _ _⟩ ?_
  rintro W ⟨e2, kL⟩
  have HW := Lib.hid (E1.out.tr e2)
  have KL := Lib.hid kL
  have hLl := kL.lt
  clear e2 kL HE
  go_wp2_with fail
  go_loopw [3, 21] (fun out i wr => ∃ (k : Nat) (ao : Option Addr) (no co : Nat), k ≤ 4 ∧ i = .int .i64 k ∧ out = .slice ao no co ∧ Oo 3 W.heap.size wr (.slice ao no co) (M.fpick [!ap, sl, ti, tw] k) ∧ Ext W wr) (fun _ i _ => 4 - (intOf i).toNat)
  case atStart => exact ⟨0, _, _, _, Nat.zero_le _, rfl, rfl, Oo.nil _ _ _, Ext.refl _⟩
  case round =>
    obtain ⟨k, ao, no, co, hk, rfl, rfl, ho, hq⟩ := hrel
    have HO := Lib.hid ho
    have HQ := Lib.hid hq
    have kL := KL.out.ext hq
    have hsz := hq.sz
    clear hq ho
    obtain ⟨wi, rfl⟩ : ∃ wi, wi = wr := ⟨_, rfl⟩
    have hlen := M.fpick_len [!ap, sl, ti, tw] k
    by_cases hkt : k < 4
    · obtain ⟨q, hq1, hq2⟩ := four_at (!ap) sl ti tw hkt
      have f0 := kL.cell hq1
      have hnx := M.fpick_next (bs := [!ap, sl, ti, tw]) hkt
      rw [hq2] at hnx
      have HNX := Lib.hid hnx
      clear hq1 hq2 hnx kL
      cases q
      · go_wp2
        go_roundw
        case rel => exact ⟨k + 1, _, _, _, by omega, by go_num, rfl, by rw [HNX.out]; simpa [M.flt] using HO.out, HQ.out⟩
        case measure => simp [intOf]; omega
      · go_wp2_with (at_builtin; refine wpl_appO (u := wi) (α := Int) rfl _ _ 33 rfl 3 Try.underlying33 elInt (v := .slice ao no co) (ys := [(k : Int) + 1]) rfl HO.out ((Ext.refl _).alloc _) hsz rfl rfl (CI.row ⟨by simp, rng_of (by omega) (by omega), trivial⟩) (by simp) (Own.nil _ _) (by simp; omega) ?_; intro v8 w8 hO8 hg8; have HO8 := Lib.hid hO8; have HE8 := Lib.hid (Ext.grown (HQ.out.alloc _) hg8 HO.out.own); obtain ⟨p8, n8, q8, rfl⟩ := hO8.sh; clear hO8 hg8)
        go_roundw
        case rel => exact ⟨k + 1, _, _, _, by omega, by go_num, rfl, by rw [HNX.out]; simpa [M.flt] using HO8.out, HE8.out⟩
        case measure => simp [intOf]; omega
    · obtain rfl : k = 4 := by omega
      have HF : Hid (Oo 3 W.heap.size wi (.slice ao no co) (M.faults s)) := Lib.hid (by rw [hm.out]; exact HO.out)
      obtain ⟨a9, c9, e9, _⟩ := HF.out.form
      cases e9
      have hcap := Lib.hid HF.out.cap
      clear kL
      go_wp2_with (go_at_call 28; refine (slices_Clip_int _ (M.faults s) _ _ _ rfl hcap.out.1 hcap.out.2).mono ?_; rintro e w9 ⟨rfl, rfl⟩)
      go_ret
      exact ⟨_, rfl, (HF.out.os.mono HW.out.sz).clip, HW.out.tr HQ.out⟩
end Sk

namespace Sk
open Go Go.Proofs Go.RowKit
set_option maxHeartbeats 2000000
set_option maxRecDepth 100000
set_option linter.unusedVariables false
set_option linter.unusedSimpArgs false
/-- The ticks of the first k slots. -/
def M.tk (xs : List Slot) (k : Nat) : Int := ((xs.take k).map (·.Ticks)).sum
theorem M.tk_zero (xs : List Slot) : M.tk xs 0 = 0 := rfl
theorem M.tk_next {xs : List Slot} {k : Nat} {x : Slot} (h : xs[k]? = some x) : M.tk xs (k + 1) = M.tk xs k + x.Ticks := by
  unfold M.tk
  rw [take_snoc h]
  simp
theorem M.ssv_all {xs : List Slot} {n : Int} (h : M.ssv xs n = true) : 1 ≤ xs.length ∧ xs.length ≤ 12 ∧ (0 ≤ n ∧ n ≤ 5) ∧ ∀ x ∈ xs, (1 ≤ x.Ticks ∧ x.Ticks ≤ 20) ∧ -1 ≤ x.Who ∧ x.Who ≤ n - 1 := by
  unfold M.ssv at h
  simp only [Bool.and_eq_true, M.inn_iff, List.all_eq_true, M.slv] at h
  exact ⟨by omega, by omega, h.1, fun x hx => h.2.2 x hx⟩
theorem M.tk_bd {xs : List Slot} (h : ∀ x ∈ xs, 1 ≤ x.Ticks ∧ x.Ticks ≤ 20) : ∀ k, k ≤ xs.length → (k : Int) ≤ M.tk xs k ∧ M.tk xs k ≤ 20 * k := by
  intro k
  induction k with
  | zero => intro _; exact ⟨Int.le_refl _, Int.le_refl _⟩
  | succ k ih =>
    intro hk
    obtain ⟨x, hx⟩ : ∃ x, xs[k]? = some x := ⟨_, List.getElem?_eq_getElem (by omega)⟩
    rw [M.tk_next hx]
    have := ih (by omega)
    have := h x (List.mem_of_getElem? hx)
    omega
theorem M.tk_mono {xs : List Slot} (h : ∀ x ∈ xs, 1 ≤ x.Ticks ∧ x.Ticks ≤ 20) {j k : Nat} (hjk : j ≤ k) (hk : k ≤ xs.length) : M.tk xs j ≤ M.tk xs k := by
  induction k with
  | zero => obtain rfl : j = 0 := by omega
            exact Int.le_refl _
  | succ k ih =>
    by_cases hj : j = k + 1
    · subst hj; exact Int.le_refl _
    · obtain ⟨x, hx⟩ : ∃ x, xs[k]? = some x := ⟨_, List.getElem?_eq_getElem (by omega)⟩
      rw [M.tk_next hx]
      have := ih (by omega) (by omega)
      have := h x (List.mem_of_getElem? hx)
      omega
theorem spec_FrameTicks (v : Value) (xs : List Slot) (n : Int) (w : World) (h : Rs w v xs) (hv : M.ssv xs n = true) :
    Calls Try.prog 82 #[v, .int .i64 n] w fun e w' => e = .returned (.int .i64 (M.tk xs xs.length)) ∧ Ext w w' := by
  obtain ⟨a, c, rfl, hl⟩ := h.form
  have H := Lib.hid h
  have hall := M.ssv_all hv
  have HV := Lib.hid hv
  obtain ⟨hx1, hx12, _, hxx⟩ := hall
  have HT := Lib.hid (M.tk_bd (fun x hx => (hxx x hx).1))
  clear h hv hxx
  go_enter Try.func82, Try.ntmps82
  go_wp2_with (go_at_call 40; refine (spec_SlotsValid _ xs n w H.out).mono ?_; rintro e w1 ⟨rfl, he⟩; rw [HV.out]; have HE1 := Lib.hid he; clear he)
  go_loopw [5, 6] (fun t i wr => ∃ k : Nat, k ≤ xs.length ∧ t = .int .i64 (M.tk xs k) ∧ i = .int .i64 k ∧ Ext w wr) (fun _ i _ => xs.length - (intOf i).toNat)
  case atStart => exact ⟨0, Nat.zero_le _, rfl, rfl, HE1.out⟩
  case round =>
    clear HE1
    obtain ⟨k, hk, rfl, rfl, hq⟩ := hrel
    have HQ := Lib.hid hq
    clear hq
    have hb := HT.out k hk
    by_cases hkt : k < xs.length
    · obtain ⟨b, o, x, rfl, hbl, hx, hc0, hc1, hr0, hr1, hvx⟩ := (H.out.ext HQ.out).atSlot k hkt
      have hb2 := HT.out (k + 1) (by omega)
      have HN := Lib.hid (M.tk_next hx.out)
      have hb3 : M.tk xs (k + 1) = M.tk xs k + x.Ticks := HN.out
      rw [hb3] at hb2
      clear hb3
      go_wp2
      go_roundw
      case rel => exact ⟨k + 1, by omega, by rw [HN.out], by go_num, HQ.out⟩
      case measure => simp [intOf]; omega
    · obtain rfl : k = xs.length := by omega
      go_wp2
      go_ret
      exact ⟨rfl, HQ.out⟩
/-- Who runs at a tick of the frame. -/
theorem spec_WhoRuns (v : Value) (xs : List Slot) (n : Int) (t : Int) (w : World) (h : Rs w v xs) (hv : M.ssv xs n = true) (ht0 : 0 ≤ t) (ht1 : t < M.tk xs xs.length) :
    Calls Try.prog 83 #[v, .int .i64 n, .int .i64 t] w fun e w' => (∃ (k : Nat) (x : Slot), xs[k]? = some x ∧ M.tk xs k ≤ t ∧ t < M.tk xs k + x.Ticks ∧ e = .returned (.int .i64 x.Who)) ∧ Ext w w' := by
  obtain ⟨a, c, rfl, hl⟩ := h.form
  have H := Lib.hid h
  have hall := M.ssv_all hv
  have HV := Lib.hid hv
  obtain ⟨hx1, hx12, _, hxx⟩ := hall
  have HT := Lib.hid (M.tk_bd (fun x hx => (hxx x hx).1))
  have HXX := Lib.hid hxx
  have hbd := HT.out xs.length (Nat.le_refl _)
  have hin : M.inn t 0 1000000 = true := M.inn_t ht0 (by omega)
  have HIN := Lib.hid hin
  have hmod : t.tmod (M.tk xs xs.length) = t := by
    rw [Int.tmod_eq_emod_of_nonneg ht0]; exact Int.emod_eq_of_lt ht0 ht1
  have hne : M.tk xs xs.length ≠ 0 := by omega
  obtain ⟨T, hT⟩ : ∃ T, M.tk xs xs.length = T := ⟨_, rfl⟩
  rw [hT] at hmod hne ht1 hbd
  replace hT := Lib.hid hT
  clear h hv hxx hin
  go_enter Try.func83, Try.ntmps83
  go_wp2_with (first
    | (go_at_call 82; refine (spec_FrameTicks _ xs n _ (H.out.ext HE1.out) HV.out).mono ?_; rintro e w2 ⟨rfl, he⟩; rw [hT.out]; have HE2 := Lib.hid (HE1.out.tr he); clear he)
    | (go_at_call 40; refine (spec_SlotsValid _ xs n w H.out).mono ?_; rintro e w1 ⟨rfl, he⟩; rw [HV.out]; have HE1 := Lib.hid he; clear he)
    | (go_at_call 61; refine (spec_In _ _ _ _).mono ?_; rintro e w' ⟨rfl, rfl⟩; rw [HIN.out]))
  go_loopw [7, 8] (fun u i wr => ∃ k : Nat, k < xs.length ∧ i = .int .i64 k ∧ M.tk xs k ≤ t ∧ u = .int .i64 (t - M.tk xs k) ∧ Ext w wr) (fun _ i _ => xs.length - (intOf i).toNat)
  case atStart => exact ⟨0, by omega, rfl, ht0, by simp [M.tk_zero], HE2.out⟩
  case round =>
    clear HE1 HE2
    obtain ⟨k, hk, rfl, hle, rfl, hq⟩ := hrel
    have HQ := Lib.hid hq
    clear hq
    obtain ⟨b, o, x, rfl, hbl, hx, hc0, hc1, hr0, hr1, hvx⟩ := (H.out.ext HQ.out).atSlot k hk
    have hb := HT.out k (by omega)
    have hxt := HXX.out x (List.mem_of_getElem? hx.out)
    have HN := Lib.hid (M.tk_next hx.out)
    by_cases hge : x.Ticks ≤ t - M.tk xs k
    · have hk1 : k + 1 < xs.length := by
        by_cases hlast : k + 1 = xs.length
        · exfalso
          have h1 := HN.out
          rw [hlast, hT.out] at h1
          omega
        · omega
      go_wp2
      go_roundw
      case rel => exact ⟨k + 1, hk1, by go_num, by rw [HN.out]; omega, by rw [HN.out]; congr 1; omega, HQ.out⟩
      case measure => simp [intOf]; omega
    · have hlt : t < M.tk xs k + x.Ticks := by omega
      go_wp2
      go_ret
      exact ⟨⟨k, x, hx.out, hle, hlt, rfl⟩, HQ.out⟩
end Sk

