/- Contracts of functions of the given program, and lemmas for them: each theorem states the condition under which it holds. -/
import Derived.Test.YtmkibejcdldjeaaChecked
import Derived.Deep.CutBlock
import Derived.Deep.CutRange
import Derived.Test.YtmkibejcdldjeaaClash
import Derived.Test.YtmkibejcdldjeaaDrawB
namespace Sk
open Go Go.Proofs Go.RowKit
set_option maxHeartbeats 2000000
set_option maxRecDepth 100000
set_option linter.unusedVariables false
set_option linter.unusedSimpArgs false
theorem M.wsv_all {ws : List Window} (h : M.wsv ws = true) : ws.length ≤ 12 ∧ ∀ x ∈ ws, M.wv x = true := by
  unfold M.wsv at h
  simp only [Bool.and_eq_true, decide_eq_true_eq, List.all_eq_true] at h
  exact h
theorem spec_WindowsClash (v v1 : Value) (ws vs : List Window) (w : World) (h : Rs w v ws) (h1 : Rs w v1 vs) (hw : M.wsv ws = true) (hv : M.wsv vs = true) :
    Calls Try.prog 81 #[v, v1] w fun e w' => e = .returned (.bool (M.clash ws vs)) ∧ Ext w w' := by
  obtain ⟨a, c, rfl, hl⟩ := h.form
  obtain ⟨a', c', rfl, hl'⟩ := h1.form
  have H := Lib.hid h
  have H1 := Lib.hid h1
  have HW := Lib.hid hw
  have HV := Lib.hid hv
  have HWV := Lib.hid (M.wsv_all hw).2
  have HVV := Lib.hid (M.wsv_all hv).2
  clear h h1 hw hv
  go_enter Try.func81, Try.ntmps81
  go_wp2_with (first
    | (go_at_call 74; refine (spec_WindowsValid _ vs w1 (H1.out.ext HE1.out)).mono ?_; rintro e w2 ⟨rfl, he⟩; rw [HV.out]; have HE2 := Lib.hid (HE1.out.tr he); clear he)
    | (go_at_call 74; refine (spec_WindowsValid _ ws w H.out).mono ?_; rintro e w1 ⟨rfl, he⟩; rw [HW.out]; have HE1 := Lib.hid he; clear he))
  go_loopw [5] (fun i wr => ∃ k : Nat, k ≤ ws.length ∧ i = .int .i64 k ∧ (ws.take k).any (fun x => vs.any (M.hitw x)) = false ∧ Ext w wr) (fun i _ => ws.length - (intOf i).toNat)
  case atStart => exact ⟨0, Nat.zero_le _, rfl, rfl, HE2.out⟩
  case round =>
    clear HE1 HE2
    obtain ⟨k, hk, rfl, hinv, hq⟩ := hrel
    have HQ := Lib.hid hq
    have HI := Lib.hid hinv
    clear hq hinv
    obtain ⟨wo, rfl⟩ : ∃ wo, wo = wr := ⟨_, rfl⟩
    by_cases hkt : k < ws.length
    · obtain ⟨b3, o3, x, rfl, hb3, hx, hd0, hd1, hd2, hs1, hs2, hv3⟩ := (H.out.ext HQ.out).atWindow k hkt
      have HXW := Lib.hid (HWV.out x (List.mem_of_getElem? hx.out))
      go_wp2
      go_loopw [6] (fun i wr => ∃ j : Nat, j ≤ vs.length ∧ i = .int .i64 j ∧ (vs.take j).any (M.hitw x) = false ∧ Ext wo wr) (fun i _ => vs.length - (intOf i).toNat)
      case atStart => exact ⟨0, Nat.zero_le _, rfl, rfl, Ext.refl _⟩
      case round =>
        obtain ⟨j, hj, rfl, hinv, hq⟩ := hrel
        have HQ2 := Lib.hid hq
        have HI2 := Lib.hid hinv
        have f0 := (cell_ext hq hb3).trans hd0
        have f1 := (cell_ext hq hb3).trans hd1
        have f2 := (cell_ext hq hb3).trans hd2
        have hb3r := Nat.lt_of_lt_of_le hb3 hq.sz
        clear hq hinv
        obtain ⟨wi, rfl⟩ : ∃ wi, wi = wr := ⟨_, rfl⟩
        by_cases hjt : j < vs.length
        · obtain ⟨b4, o4, y, rfl, hb4, hy, he0, he1, he2, ht1, ht2, hv4⟩ := (H1.out.ext (HQ.out.tr HQ2.out)).atWindow j hjt
          have HYW := Lib.hid (HVV.out y (List.mem_of_getElem? hy.out))
          clear hd0 hd1 hd2
          obtain ⟨q, hq⟩ : ∃ q, M.lapw x y = q := ⟨_, rfl⟩
          have hh0 : M.hitw x y = (q && (x.Write || y.Write)) := by unfold M.hitw; rw [hq]
          replace hq := Lib.hid hq
          replace hh0 := Lib.hid hh0
          go_upto_region 9 with (fail)
          go_region_held3 (fun u => u.cell? ⟨b3, o3 + k * 3, none⟩ = some (.int .i64 x.Base) ∧ u.cell? ⟨b3, o3 + k * 3 + 1, none⟩ = some (.int .i64 x.Size) ∧ u.cell? ⟨b3, o3 + k * 3 + 2, none⟩ = some (.bool x.Write) ∧ u.cell? ⟨b4, o4 + j * 3, none⟩ = some (.int .i64 y.Base) ∧ u.cell? ⟨b4, o4 + j * 3 + 1, none⟩ = some (.int .i64 y.Size) ∧ u.cell? ⟨b4, o4 + j * 3 + 2, none⟩ = some (.bool y.Write))
            (first
              | go_keep
              | exact ⟨(cell_ext HE5.out hb3r).trans f0, (cell_ext HE5.out hb3r).trans f1, (cell_ext HE5.out hb3r).trans f2, (cell_ext HE5.out hb4).trans he0, (cell_ext HE5.out hb4).trans he1, (cell_ext HE5.out hb4).trans he2⟩
              | exact ⟨(cell_ext (HE5.out.alloc _) hb3r).trans f0, (cell_ext (HE5.out.alloc _) hb3r).trans f1, (cell_ext (HE5.out.alloc _) hb3r).trans f2, (cell_ext (HE5.out.alloc _) hb4).trans he0, (cell_ext (HE5.out.alloc _) hb4).trans he1, (cell_ext (HE5.out.alloc _) hb4).trans he2⟩
              | exact ⟨(cell_ext (((HE5.out.set (p := ⟨wi.heap.size, 0, none⟩) (Nat.le_refl _) _).set (p := ⟨wi.heap.size, 1, none⟩) (Nat.le_refl _) _).set (p := ⟨wi.heap.size, 2, none⟩) (Nat.le_refl _) _) hb3r).trans f0, (cell_ext (((HE5.out.set (p := ⟨wi.heap.size, 0, none⟩) (Nat.le_refl _) _).set (p := ⟨wi.heap.size, 1, none⟩) (Nat.le_refl _) _).set (p := ⟨wi.heap.size, 2, none⟩) (Nat.le_refl _) _) hb3r).trans f1, (cell_ext (((HE5.out.set (p := ⟨wi.heap.size, 0, none⟩) (Nat.le_refl _) _).set (p := ⟨wi.heap.size, 1, none⟩) (Nat.le_refl _) _).set (p := ⟨wi.heap.size, 2, none⟩) (Nat.le_refl _) _) hb3r).trans f2, (cell_ext (((HE5.out.set (p := ⟨wi.heap.size, 0, none⟩) (Nat.le_refl _) _).set (p := ⟨wi.heap.size, 1, none⟩) (Nat.le_refl _) _).set (p := ⟨wi.heap.size, 2, none⟩) (Nat.le_refl _) _) hb4).trans he0, (cell_ext (((HE5.out.set (p := ⟨wi.heap.size, 0, none⟩) (Nat.le_refl _) _).set (p := ⟨wi.heap.size, 1, none⟩) (Nat.le_refl _) _).set (p := ⟨wi.heap.size, 2, none⟩) (Nat.le_refl _) _) hb4).trans he1, (cell_ext (((HE5.out.set (p := ⟨wi.heap.size, 0, none⟩) (Nat.le_refl _) _).set (p := ⟨wi.heap.size, 1, none⟩) (Nat.le_refl _) _).set (p := ⟨wi.heap.size, 2, none⟩) (Nat.le_refl _) _) hb4).trans he2⟩)
            (first
              | (go_at_call 101; refine (spec_WindowsMeet _ _ x y _ ⟨_, [], rfl, rfl, hs1, hs2, rfl⟩ ⟨_, [], rfl, rfl, ht1, ht2, rfl⟩ HXW.out HYW.out).mono ?_; rintro e w5 ⟨⟨z, rfl⟩, he⟩; rw [hq.out]; have HE5 : Hid (Ext wi w5) := Lib.hid (by first | exact (Ext.refl wi).drew.tr he | exact ((Ext.refl wi).drew.alloc _).tr he); (try (have KT : Bk w5 wi.heap.size [.int .i64 0, .int .i64 0, .bool false] 55 := (Bk.new wi.drew [.int .i64 0, .int .i64 0, .bool false] 55).ext he; have t0 := KT.cell (j := 0) rfl; have t1 := KT.cell (j := 1) rfl; have t2 := KT.cell (j := 2) rfl; have tf := KT.fz; have tl := KT.lt; clear KT)); clear he))
          all_goals
            go_upto_region 10 with (fail)
            refine abs_world (fun W9 => Ext wi W9) ?_ ?_
            · first | exact HE5.out.alloc _ | exact HE5.out | exact (((HE5.out.set (p := ⟨wi.heap.size, 0, none⟩) (Nat.le_refl _) _).set (p := ⟨wi.heap.size, 1, none⟩) (Nat.le_refl _) _).set (p := ⟨wi.heap.size, 2, none⟩) (Nat.le_refl _) _)
            intro W9 e9
            have p2 := (cell_ext e9 hb3r).trans f2
            have r2 := (cell_ext e9 hb4).trans he2
            have HE9 := Lib.hid e9
            clear e9 HE5 f0 f1 f2 he0 he1 he2
            cases q
            · have hh : Hid (M.hitw x y = false) := Lib.hid (by rw [hh0.out]; rfl)
              go_wp2
              go_roundw
              case rel => exact ⟨j + 1, by omega, by go_num, any_take_f HI2.out hy.out hh.out, HQ2.out.tr HE9.out⟩
              case measure => simp [intOf]; omega
            · rcases Bool.eq_false_or_eq_true x.Write with hxw | hxw
              rotate_left
              · rw [hxw] at p2
                rcases Bool.eq_false_or_eq_true y.Write with hyw | hyw
                rotate_left
                · rw [hyw] at r2
                  have hh : Hid (M.hitw x y = false) := Lib.hid (by rw [hh0.out, hxw, hyw]; rfl)
                  clear hxw hyw
                  go_wp2
                  go_roundw
                  case rel => exact ⟨j + 1, by omega, by go_num, any_take_f HI2.out hy.out hh.out, HQ2.out.tr HE9.out⟩
                  case measure => simp [intOf]; omega
                · rw [hyw] at r2
                  have hh : Hid (M.hitw x y = true) := Lib.hid (by rw [hh0.out, hxw, hyw]; rfl)
                  clear hxw hyw
                  go_wp2
                  go_ret
                  exact ⟨wp_cond_ret (M.clash_t (List.mem_of_getElem? hx.out) (List.mem_of_getElem? hy.out) hh.out).symm, (HQ.out.tr HQ2.out).tr HE9.out⟩
              · rw [hxw] at p2
                have hh : Hid (M.hitw x y = true) := Lib.hid (by rw [hh0.out, hxw]; rfl)
                clear hxw
                go_wp2
                go_ret
                exact ⟨wp_cond_ret (M.clash_t (List.mem_of_getElem? hx.out) (List.mem_of_getElem? hy.out) hh.out).symm, (HQ.out.tr HQ2.out).tr HE9.out⟩
        · obtain rfl : j = vs.length := by omega
          have HF := Lib.hid (by have := HI2.out; rwa [List.take_length] at this : vs.any (M.hitw x) = false)
          go_wp2
          go_roundw
          case rel => exact ⟨k + 1, by omega, by go_num, any_take_f HI.out hx.out HF.out, HQ.out.tr HQ2.out⟩
          case measure => simp [intOf]; omega
    · obtain rfl : k = ws.length := by omega
      have HF := Lib.hid (by have := HI.out; rw [List.take_length] at this; exact this : M.clash ws vs = false)
      go_wp2
      go_ret
      exact ⟨wp_cond_ret HF.out.symm, HQ.out⟩
theorem M.psv_wsv {ps : List Part} (h : M.psv ps = true) {k : Nat} {x : Part} (hx : ps[k]? = some x) : M.wsv x.Windows = true := by
  unfold M.psv at h
  simp only [Bool.and_eq_true, List.all_eq_true] at h
  have := h.2 x (List.mem_of_getElem? hx)
  unfold M.pv1 at this
  exact (Bool.and_eq_true_iff.1 this).1
theorem spec_PartsApart (v : Value) (ps : List Part) (w : World) (h : Rs w v ps) (hp : M.psv ps = true) :
    Calls Try.prog 48 #[v] w fun e w' => e = .returned (.bool (M.apart ps)) ∧ Ext w w' := by
  obtain ⟨a, c, rfl, hl⟩ := h.form
  have H := Lib.hid h
  have HP := Lib.hid hp
  clear h hp
  go_enter Try.func48, Try.ntmps48
  go_wp2_with (go_at_call 38; refine (spec_PartsValid _ ps w H.out).mono ?_; rintro e w1 ⟨rfl, he⟩; rw [HP.out]; have HE1 := Lib.hid he; clear he)
  go_loopw [3] (fun i wr => ∃ k : Nat, k ≤ ps.length ∧ i = .int .i64 k ∧ M.Ap ps k ∧ Ext w wr) (fun i _ => ps.length - (intOf i).toNat)
  case atStart => exact ⟨0, Nat.zero_le _, rfl, M.Ap.zero _, HE1.out⟩
  case round =>
    clear HE1
    obtain ⟨k, hk, rfl, hinv, hq⟩ := hrel
    have HQ := Lib.hid hq
    have HI := Lib.hid hinv
    clear hq hinv
    obtain ⟨wo, rfl⟩ : ∃ wo, wo = wr := ⟨_, rfl⟩
    by_cases hkt : k < ps.length
    · obtain ⟨b, o, y, wa, wc, rfl, hb, hy, hc0, hc1, hr1, hs0, hl3, hv⟩ := (H.out.ext HQ.out).atPart k hkt
      go_wp2
      go_loopw [4] (fun i wr => ∃ j : Nat, j ≤ k ∧ i = .int .i64 j ∧ (∀ (i : Nat) (x : Part), i < j → ps[i]? = some x → M.clash x.Windows y.Windows = false) ∧ Ext wo wr) (fun i _ => k - (intOf i).toNat)
      case atStart => exact ⟨0, Nat.zero_le _, rfl, fun i x hi => absurd hi (Nat.not_lt_zero _), Ext.refl _⟩
      case round =>
        obtain ⟨j, hj, rfl, hinv, hq⟩ := hrel
        have HQ2 := Lib.hid hq
        have HI2 := Lib.hid hinv
        have f0 := (cell_ext hq hb).trans hc0
        have hbr := Nat.lt_of_lt_of_le hb hq.sz
        clear hq hinv
        obtain ⟨wi, rfl⟩ : ∃ wi, wi = wr := ⟨_, rfl⟩
        by_cases hjt : j < k
        · obtain ⟨b2, o2, x, xa, xc, hb2, hb2l, hx, he0, he1, hx1, hxs, hxl, hxv⟩ := (H.out.ext (HQ.out.tr HQ2.out)).atPart j (by omega)
          cases hb2
          have hjl : j < ps.length := by omega
          have HXW := Lib.hid (M.psv_wsv HP.out hx.out)
          have HYW := Lib.hid (M.psv_wsv HP.out hy.out)
          have HYS := Lib.hid (hs0.out.ext HQ2.out)
          clear hc0 hc1
          go_upto_region 9 with (fail)
          refine wp_region_tab rfl 10 [(19, [19]), (20, [20]), (21, [21]), (22, [22]), (23, [23]), (24, [24]), (25, [25]), (26, [26]), (27, [27]), (28, [28])]
            (fun i vs u F => match i, vs with
              | 0, [z] => z = .slice (some ⟨b, o, none⟩) ps.length c
              | 1, [z] => z = .int .i64 j
              | 2, [z] => z = .pointer (some ⟨b, o + j * 2, none⟩)
              | 3, [z] => z = .pointer (some ⟨b, o + j * 2, none⟩)
              | 4, [z] => z = .slice xa x.Windows.length xc
              | 5, [z] => z = .slice (some ⟨b, o, none⟩) ps.length c
              | 6, [z] => z = .int .i64 k
              | 7, [z] => z = .pointer (some ⟨b, o + k * 2, none⟩)
              | 8, [z] => z = .pointer (some ⟨b, o + k * 2, none⟩)
              | 9, [z] => z = .slice wa y.Windows.length wc
              | _, _ => False) (by decide +kernel) ?_ ?_
          · intro i hi oo ho U u F hE hd hap
            have e0 := (cell_ext hE hbr).trans f0
            have e1 := (cell_ext hE hb2l).trans he0
            rcases (by omega : i = 0 ∨ i = 1 ∨ i = 2 ∨ i = 3 ∨ i = 4 ∨ i = 5 ∨ i = 6 ∨ i = 7 ∨ i = 8 ∨ i = 9) with rfl | rfl | rfl | rfl | rfl | rfl | rfl | rfl | rfl | rfl
            · cases ho
              simp only [putAll_toArray, put_toArray, List.map_cons, List.map_nil, setL, List.set_cons_succ, List.set_cons_zero, Bd.d, List.getD_cons_succ, List.getD_cons_zero]
              intro K hK
              go_wp2
              exact hK _ [] _ (Ext.refl u) (fun _ _ => rfl) (Own.nil _ _)
            · cases ho
              simp only [putAll_toArray, put_toArray, List.map_cons, List.map_nil, setL, List.set_cons_succ, List.set_cons_zero, Bd.d, List.getD_cons_succ, List.getD_cons_zero]
              intro K hK
              go_wp2
              exact hK _ [] _ (Ext.refl u) (fun _ _ => rfl) (Own.nil _ _)
            · cases ho
              simp only [putAll_toArray, put_toArray, List.map_cons, List.map_nil, setL, List.set_cons_succ, List.set_cons_zero, Bd.d, List.getD_cons_succ, List.getD_cons_zero]
              have d0 := (hd 0 (by decide +kernel)).1
              have d1 := (hd 1 (by decide +kernel)).1
              simp only [Bd.u, List.getD_cons_succ, List.getD_cons_zero, List.map_cons, List.map_nil] at d0 d1
              try simp only [d0, d1]
              clear d0 d1
              intro K hK
              go_wp2
              exact hK _ [] _ (Ext.refl u) (fun _ _ => rfl) (Own.nil _ _)
            · cases ho
              simp only [putAll_toArray, put_toArray, List.map_cons, List.map_nil, setL, List.set_cons_succ, List.set_cons_zero, Bd.d, List.getD_cons_succ, List.getD_cons_zero]
              have d0 := (hd 0 (by decide +kernel)).1
              have d1 := (hd 1 (by decide +kernel)).1
              have d2 := (hd 2 (by decide +kernel)).1
              simp only [Bd.u, List.getD_cons_succ, List.getD_cons_zero, List.map_cons, List.map_nil] at d0 d1 d2
              try simp only [d0, d1, d2]
              clear d0 d1 d2
              intro K hK
              go_wp2
              exact hK _ [] _ (Ext.refl u) (fun _ _ => rfl) (Own.nil _ _)
            · cases ho
              simp only [putAll_toArray, put_toArray, List.map_cons, List.map_nil, setL, List.set_cons_succ, List.set_cons_zero, Bd.d, List.getD_cons_succ, List.getD_cons_zero]
              have d0 := (hd 0 (by decide +kernel)).1
              have d1 := (hd 1 (by decide +kernel)).1
              have d2 := (hd 2 (by decide +kernel)).1
              have d3 := (hd 3 (by decide +kernel)).1
              simp only [Bd.u, List.getD_cons_succ, List.getD_cons_zero, List.map_cons, List.map_nil] at d0 d1 d2 d3
              try simp only [d0, d1, d2, d3]
              clear d0 d1 d2 d3
              intro K hK
              go_wp2
              exact hK _ [] _ (Ext.refl u) (fun _ _ => rfl) (Own.nil _ _)
            · cases ho
              simp only [putAll_toArray, put_toArray, List.map_cons, List.map_nil, setL, List.set_cons_succ, List.set_cons_zero, Bd.d, List.getD_cons_succ, List.getD_cons_zero]
              intro K hK
              go_wp2
              exact hK _ [] _ (Ext.refl u) (fun _ _ => rfl) (Own.nil _ _)
            · cases ho
              simp only [putAll_toArray, put_toArray, List.map_cons, List.map_nil, setL, List.set_cons_succ, List.set_cons_zero, Bd.d, List.getD_cons_succ, List.getD_cons_zero]
              intro K hK
              go_wp2
              exact hK _ [] _ (Ext.refl u) (fun _ _ => rfl) (Own.nil _ _)
            · cases ho
              simp only [putAll_toArray, put_toArray, List.map_cons, List.map_nil, setL, List.set_cons_succ, List.set_cons_zero, Bd.d, List.getD_cons_succ, List.getD_cons_zero]
              have d5 := (hd 5 (by decide +kernel)).1
              have d6 := (hd 6 (by decide +kernel)).1
              simp only [Bd.u, List.getD_cons_succ, List.getD_cons_zero, List.map_cons, List.map_nil] at d5 d6
              try simp only [d5, d6]
              clear d5 d6
              intro K hK
              go_wp2
              exact hK _ [] _ (Ext.refl u) (fun _ _ => rfl) (Own.nil _ _)
            · cases ho
              simp only [putAll_toArray, put_toArray, List.map_cons, List.map_nil, setL, List.set_cons_succ, List.set_cons_zero, Bd.d, List.getD_cons_succ, List.getD_cons_zero]
              have d5 := (hd 5 (by decide +kernel)).1
              have d6 := (hd 6 (by decide +kernel)).1
              have d7 := (hd 7 (by decide +kernel)).1
              simp only [Bd.u, List.getD_cons_succ, List.getD_cons_zero, List.map_cons, List.map_nil] at d5 d6 d7
              try simp only [d5, d6, d7]
              clear d5 d6 d7
              intro K hK
              go_wp2
              exact hK _ [] _ (Ext.refl u) (fun _ _ => rfl) (Own.nil _ _)
            · cases ho
              simp only [putAll_toArray, put_toArray, List.map_cons, List.map_nil, setL, List.set_cons_succ, List.set_cons_zero, Bd.d, List.getD_cons_succ, List.getD_cons_zero]
              have d5 := (hd 5 (by decide +kernel)).1
              have d6 := (hd 6 (by decide +kernel)).1
              have d7 := (hd 7 (by decide +kernel)).1
              have d8 := (hd 8 (by decide +kernel)).1
              simp only [Bd.u, List.getD_cons_succ, List.getD_cons_zero, List.map_cons, List.map_nil] at d5 d6 d7 d8
              try simp only [d5, d6, d7, d8]
              clear d5 d6 d7 d8
              intro K hK
              go_wp2
              exact hK _ [] _ (Ext.refl u) (fun _ _ => rfl) (Own.nil _ _)
          · intro oo ho U u2 F hE hφ hap
            cases ho
            simp only [putAll_toArray, put_toArray, List.map_cons, List.map_nil, setL, List.set_cons_succ, List.set_cons_zero, Bd.d, List.getD_cons_succ, List.getD_cons_zero]
            have d0 := (hφ 0 (by omega)).1
            have d1 := (hφ 1 (by omega)).1
            have d2 := (hφ 2 (by omega)).1
            have d3 := (hφ 3 (by omega)).1
            have d4 := (hφ 4 (by omega)).1
            have d5 := (hφ 5 (by omega)).1
            have d6 := (hφ 6 (by omega)).1
            have d7 := (hφ 7 (by omega)).1
            have d8 := (hφ 8 (by omega)).1
            have d9 := (hφ 9 (by omega)).1
            simp only [Bd.u, List.getD_cons_succ, List.getD_cons_zero, List.map_cons, List.map_nil] at d0 d1 d2 d3 d4 d5 d6 d7 d8 d9
            try simp only [d0, d1, d2, d3, d4, d5, d6, d7, d8, d9]
            have HE2 := Lib.hid hE
            clear d0 d1 d2 d3 d4 d5 d6 d7 d8 hφ hap hE
            obtain ⟨q, hq⟩ : ∃ q, M.clash x.Windows y.Windows = q := ⟨_, rfl⟩
            replace hq := Lib.hid hq
            cases q
            · go_wp2_with (go_at_call 81; refine (spec_WindowsClash _ _ x.Windows y.Windows _ (hxs.out.ext HE2.out) (HYS.out.ext HE2.out) HXW.out HYW.out).mono ?_; rintro e w5 ⟨rfl, he⟩; rw [hq.out]; have HE5 := Lib.hid (HQ2.out.tr (HE2.out.tr he)); clear he)
              go_roundw
              case rel => exact ⟨j + 1, by omega, by go_num, fun i z hi hz => by
                by_cases hij : i = j
                · subst hij
                  rw [hx.out] at hz; cases hz
                  exact hq.out
                · exact HI2.out i z (by omega) hz, HE5.out⟩
              case measure => simp [intOf]; omega
            · go_wp2_with (go_at_call 81; refine (spec_WindowsClash _ _ x.Windows y.Windows _ (hxs.out.ext HE2.out) (HYS.out.ext HE2.out) HXW.out HYW.out).mono ?_; rintro e w5 ⟨rfl, he⟩; rw [hq.out]; have HE5 := Lib.hid (HQ2.out.tr (HE2.out.tr he)); clear he)
              go_ret
              exact ⟨wp_cond_ret (M.apart_f (by omega) hx.out hy.out hq.out).symm, HQ.out.tr HE5.out⟩
        · obtain rfl : j = k := by omega
          go_wp2
          go_roundw
          case rel => exact ⟨j + 1, by omega, by go_num, HI.out.next hy.out HI2.out, HQ.out.tr HQ2.out⟩
          case measure => simp [intOf]; omega
    · obtain rfl : k = ps.length := by omega
      have HF := Lib.hid (Bo.t HI.out : M.apart ps = true)
      go_wp2
      go_ret
      exact ⟨wp_cond_ret HF.out.symm, HQ.out⟩
end Sk

