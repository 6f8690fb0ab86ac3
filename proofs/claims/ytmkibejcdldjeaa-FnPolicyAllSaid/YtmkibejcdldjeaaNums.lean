/- Contracts of functions of the given program, and lemmas for them: each theorem states the condition under which it holds. -/
import Derived.Test.YtmkibejcdldjeaaChecked
import Derived.Test.YtmkibejcdldjeaaApp
import Derived.Test.YtmkibejcdldjeaaChan
namespace Sk
open Go Go.Proofs Go.RowKit
set_option maxHeartbeats 400000
set_option maxRecDepth 100000
set_option linter.unusedVariables false
set_option linter.unusedSimpArgs false
theorem elInt : El Try.prog 3 Int := El.of (z := .int .i64 0) (n := 1) (b := 8) (by kernel_rfl) rfl rfl (by decide)
/-- Numbers that lie one behind the other. -/
def CI (w : World) (b : Nat) : Nat → List Int → Prop
  | _, [] => True
  | o, n :: ns => w.cell? ⟨b, o, none⟩ = some (.int .i64 n) ∧ rng n ∧ CI w b (o + 1) ns
theorem CI.row {w : World} {b : Nat} {ns : List Int} : ∀ {o : Nat}, CI w b o ns → Row w b o ns [] := by
  induction ns with
  | nil => intro o _; rfl
  | cons n ns ih =>
    intro o h
    exact ⟨[.int .i64 n], [], [], ⟨rfl, h.2.1, rfl⟩, fun j u hj => by
      cases j with
      | zero => simp at hj; subst hj; exact h.1
      | succ j => simp at hj, rfl, ih h.2.2⟩
theorem rng_of {n : Int} (h1 : -9223372036854775808 ≤ n) (h2 : n ≤ 9223372036854775807) : rng n := ⟨h1, h2⟩
def M.wn (x : Window) : List Int := [x.Base, x.Size, M.bit x.Write]
def M.pn (p : Part) : List Int := [p.Cells, (p.Windows.length : Int)] ++ p.Windows.flatMap M.wn
def M.cn (c : Channel) : List Int := [c.Kind, c.From, c.To, c.Size]
def M.sn (x : Slot) : List Int := [x.Who + 1, x.Ticks]
/-- The numbers that describe a setup. -/
def M.nums (s : Setup) : List Int :=
  ((((([(s.Parts.length : Int)] ++ s.Parts.flatMap M.pn) ++ [(s.Channels.length : Int)]) ++ s.Channels.flatMap M.cn) ++ [(s.Slots.length : Int)]) ++ s.Slots.flatMap M.sn)
noncomputable def M.numbers (s : Setup) : List Int := if M.setv s then M.nums s else []
theorem flatMap_take {α β : Type} (f : α → List β) {xs : List α} {k : Nat} {x : α} (h : xs[k]? = some x) : (xs.take (k + 1)).flatMap f = (xs.take k).flatMap f ++ f x := by
  rw [take_snoc h, List.flatMap_append]; simp
theorem slices_Clip_int (v : Value) (xs : List Int) (w : World) (a : Option Addr) (c : Nat) (hv : v = .slice a xs.length c) (hc : xs.length ≤ c) (hl : c ≤ 9223372036854775807) :
    Calls Try.prog 28 #[v] w fun e w' => e = .returned (.slice a xs.length xs.length) ∧ w = w' := by
  subst hv
  go_enter Try.func28, Try.ntmps28
  go_wp2
  go_ret
  exact ⟨rfl, rfl⟩
theorem box3 {w w1 : World} {c0 c1 c2 : Value} {T : TypeId} (he : Ext (w.alloc (.cells #[c0, c1, c2] T)) w1) :
    w.heap.size < w1.heap.size ∧ w1.cell? ⟨w.heap.size, 0, none⟩ = some c0 ∧ w1.cell? ⟨w.heap.size, 1, none⟩ = some c1 ∧ w1.cell? ⟨w.heap.size, 2, none⟩ = some c2 := by
  have hs : w.heap.size < (w.alloc (.cells #[c0, c1, c2] T)).heap.size := by simp
  refine ⟨Nat.lt_of_lt_of_le hs he.sz, ?_, ?_, ?_⟩
  all_goals rw [(bcell he).1 _ _ hs]; simp
theorem M.bit_rng (b : Bool) : rng (M.bit b) := by cases b <;> exact ⟨by decide, by decide⟩
theorem M.setv_parts {s : Setup} (h : M.setv s = true) : s.Parts.length ≤ 5 := by
  simp only [M.setv, M.psv, Bool.and_eq_true, decide_eq_true_eq] at h; exact h.1.1
theorem flat_len {α β : Type} (f : α → List β) (xs : List α) (k B : Nat) (h : ∀ x ∈ xs, (f x).length ≤ B) : ((xs.take k).flatMap f).length ≤ xs.length * B := by
  have h2 : ∀ ys : List α, (∀ x ∈ ys, (f x).length ≤ B) → (ys.flatMap f).length ≤ ys.length * B := by
    intro ys
    induction ys with
    | nil => intro _; simp
    | cons y ys ih =>
      intro hy
      have := ih (fun x hx => hy x (List.mem_cons_of_mem _ hx))
      have := hy y (List.mem_cons_self ..)
      rw [List.flatMap_cons, List.length_append, List.length_cons, Nat.succ_mul]; omega
  refine Nat.le_trans (h2 _ fun x hx => h x (List.mem_of_mem_take hx)) (Nat.mul_le_mul_right _ ?_)
  rw [List.length_take]; omega
theorem M.setv_chans {s : Setup} (h : M.setv s = true) : s.Channels.length ≤ 8 := by
  simp only [M.setv, M.csv, Bool.and_eq_true, decide_eq_true_eq] at h; exact h.2.1.2.1
theorem M.setv_slots {s : Setup} (h : M.setv s = true) : s.Slots.length ≤ 12 := by
  simp only [M.setv, M.ssv, Bool.and_eq_true, M.inn_iff] at h; omega
theorem M.setv_who {s : Setup} (h : M.setv s = true) {x : Slot} (hx : x ∈ s.Slots) : -1 ≤ x.Who ∧ x.Who ≤ 5 := by
  have hp := M.setv_parts h
  simp only [M.setv, M.ssv, Bool.and_eq_true, List.all_eq_true, M.slv, M.inn_iff] at h
  have := h.2.2.2.2 x hx; omega
theorem M.setv_wsv {s : Setup} (h : M.setv s = true) {x : Part} (hx : x ∈ s.Parts) : M.wsv x.Windows = true ∧ M.inn x.Cells 1 8 = true := by
  simp only [M.setv, M.psv, Bool.and_eq_true, List.all_eq_true] at h
  have := h.1.2 x hx
  simpa only [M.pv1, Bool.and_eq_true] using this
theorem M.setv_win {s : Setup} (h : M.setv s = true) {k : Nat} {x : Part} (hx : s.Parts[k]? = some x) : x.Windows.length ≤ 12 := by
  have := (M.setv_wsv h (List.mem_of_getElem? hx)).1
  simp only [M.wsv, Bool.and_eq_true, decide_eq_true_eq] at this; exact this.1
theorem M.pn_len {s : Setup} (h : M.setv s = true) {x : Part} (hx : x ∈ s.Parts) : (M.pn x).length ≤ 38 := by
  obtain ⟨k, hk⟩ := List.getElem?_of_mem hx
  have h1 := M.setv_win h hk
  have h2 := flat_len M.wn x.Windows x.Windows.length 3 (fun y _ => by simp [M.wn])
  rw [List.take_length] at h2
  simp only [M.pn, List.length_append, List.length_cons, List.length_nil]; omega
theorem impl_SetupNumbersC (v : Value) (s : Setup) (w : World) (h : Rv w v s) :
    Calls Try.prog 10 #[v] w fun e w' => ∃ v', e = .returned v' ∧ Os w.heap.size w' v' (M.numbers s) ∧ (∃ a, v' = .slice a (M.numbers s).length (M.numbers s).length) ∧ Ext w w' := by
  have H := Lib.hid h
  obtain ⟨a0, c0, a1, c1, a2, c2, rfl, h0, hl0, h1, hl1, h2, hl2⟩ := h.openSetup
  clear h
  have e0 := Lib.hid ((Ext.refl w).alloc (.cells #[.slice a0 s.Parts.length c0, .slice a1 s.Channels.length c1, .slice a2 s.Slots.length c2] 27))
  cases g0 : M.setv s
  · have hm : Hid (M.numbers s = []) := Lib.hid (by unfold M.numbers; rw [g0]; rfl)
    go_enter Try.func10, Try.ntmps10
    go_wp2_with fail
    refine (impl_SetupValid _ s _ (H.out.ext e0.out)).mono ?_
    rintro e w1 ⟨rfl, he1⟩
    have E1 := Lib.hid (e0.out.tr he1)
    clear he1
    go_wp2
    go_ret
    exact ⟨_, rfl, by rw [hm.out]; exact (Oa.nil 3 w.heap.size _).os (Own.nil _ _), ⟨none, by rw [hm.out]; rfl⟩, E1.out⟩
  · have hm : Hid (M.numbers s = M.nums s) := Lib.hid (by unfold M.numbers; rw [g0]; rfl)
    go_enter Try.func10, Try.ntmps10
    go_wp2_with fail
    refine (impl_SetupValid _ s _ (H.out.ext e0.out)).mono ?_
    rintro e w1 ⟨rfl, he1⟩
    have E1 := Lib.hid (e0.out.tr he1)
    obtain ⟨hz, hx0, hx1, hx2⟩ := box3 he1
    clear he1
    have hps : s.Parts.length ≤ 5 := M.setv_parts g0
    go_wp2
    go_loopw [3, 22] (fun out i wr => ∃ (k : Nat) (ao : Option Addr) (no co : Nat), k ≤ s.Parts.length ∧ i = .int .i64 k ∧ out = .slice ao no co ∧ Oa 3 w1.heap.size wr (.slice ao no co) ([(s.Parts.length : Int)] ++ (s.Parts.take k).flatMap M.pn) [] ∧ Ext w1 wr) (fun _ i _ => s.Parts.length - (intOf i).toNat)
    case atStart => exact ⟨0, _, _, _, Nat.zero_le _, rfl, rfl, Oa.lit 3 w1 [.int .i64 s.Parts.length] [(s.Parts.length : Int)] rfl rfl (by simp) (CI.row ⟨by simp, rng_of (by omega) (by omega), trivial⟩) (by simp), (Ext.refl _).alloc _⟩
    case round =>
      obtain ⟨k, ao, no, co, hk, rfl, rfl, ho, hq⟩ := hrel
      have HO := Lib.hid ho
      have HQ := Lib.hid hq
      clear ho
      have hzs := hq.sz
      obtain ⟨hcb, hfb⟩ := bcell hq
      clear hq
      by_cases hlt : k < s.Parts.length
      · obtain ⟨b, o, x, a3, c3, rfl, hb, hx, hc0, hc1, hr1, hs0, hl3, hv⟩ := (h0.out.ext E1.out).atPart k hlt
        have hxw : x.Windows.length ≤ 12 := M.setv_win g0 hx.out
        have hbd := Lib.hid (flat_len M.pn s.Parts k 38 (fun y hy => M.pn_len g0 hy))
        go_wp2_with (at_builtin; refine wpl_app (α := Int) rfl _ _ 33 rfl 3 Try.underlying33 elInt (v := .slice ao no co) (ys := [x.Cells, (x.Windows.length : Int)]) rfl (HO.out.ext (((Ext.refl _).alloc _).alloc _)) rfl rfl (CI.row ⟨by simp, hr1, by simp, rng_of (by omega) (by omega), trivial⟩) (by omega) (by simp) (by have := hbd.out; simp only [List.length_append, List.length_cons, List.length_nil]; omega) (by simp; omega) ?_; intro v' w' hO' hgr; have hbx := grown_cell (b := wr.heap.size) (o := 0) (u := .slice a3 x.Windows.length c3) hgr (cell_alloc_two (by simp)) (by simp; omega) (fun k hk e => by have := HO.out.lt k hk; omega); have HO2 := Lib.hid hO'; have HQ2 := Lib.hid (Ext.grown ((HQ.out.alloc _).alloc _) hgr HO.out.own); clear hO' hgr; obtain ⟨ao2, co2, rfl, _⟩ := HO2.out.form)
        go_loopw [3, 37] (fun out i wi => ∃ (j : Nat) (ao no co : _), j ≤ x.Windows.length ∧ i = .int .i64 j ∧ out = .slice ao no co ∧ Oa 3 w1.heap.size wi (.slice ao no co) ([(s.Parts.length : Int)] ++ (s.Parts.take k).flatMap M.pn ++ ([x.Cells, (x.Windows.length : Int)] ++ (x.Windows.take j).flatMap M.wn)) [] ∧ Ext w1 wi) (fun _ i _ => x.Windows.length - (intOf i).toNat)
        case atStart => exact ⟨0, _, _, _, Nat.zero_le _, rfl, rfl, by simpa using HO2.out, HQ2.out⟩
        case round =>
          obtain ⟨j, ao, no, co, hj, rfl, rfl, ho, hq⟩ := hrel
          have HO3 := Lib.hid ho
          have HQ3 := Lib.hid hq
          clear ho
          have hzs3 := hq.sz
          obtain ⟨hcb3, hfb3⟩ := bcell hq
          clear hq
          by_cases hjt : j < x.Windows.length
          · obtain ⟨b3, o3, y, rfl, hb3, hy, hd0, hd1, hd2, hs1, hs2, hv3⟩ := hs0.out.atWindow j hjt
            have hbd3 := Lib.hid (flat_len M.wn x.Windows j 3 (fun y _ => by simp [M.wn]))
            go_wp2
            have hbx := box3 (Ext.refl (wr.alloc (.cells #[.int .i64 y.Base, .int .i64 y.Size, .bool y.Write] 55)))
            have HX2 := Lib.hid ((Ext.refl wr).alloc (.cells #[.int .i64 y.Base, .int .i64 y.Size, .bool y.Write] 55))
            generalize wr.alloc (.cells #[.int .i64 y.Base, .int .i64 y.Size, .bool y.Write] 55) = W2 at *
            obtain ⟨hz2, hy0, hy1, hy2⟩ := hbx
            go_region_held3 (fun u => u.cell? ⟨wr.heap.size, 0, none⟩ = some (.int .i64 y.Base) ∧ u.cell? ⟨wr.heap.size, 1, none⟩ = some (.int .i64 y.Size) ∧ u.cell? ⟨wr.heap.size, 2, none⟩ = some (.bool y.Write))
              (first
                | go_keep
                | exact ⟨grown_cell hgr (by go_keep) (by simp; omega) hne, grown_cell hgr (by go_keep) (by simp; omega) hne, grown_cell hgr (by go_keep) (by simp; omega) hne⟩)
              (first
                | (go_at_call 27; refine (impl_bit _ _).mono ?_; rintro e w' ⟨rfl, rfl⟩)
                | (refine step_app (α := Int) rfl _ _ 33 rfl 3 Try.underlying33 elInt (v := .slice ao no co) (ys := [y.Base, y.Size, M.bit y.Write]) rfl (HO3.out.ext (HX2.out.drew.alloc _)) rfl rfl (CI.row ⟨by simp, hs1, by simp, hs2, by simp, M.bit_rng _, trivial⟩) (by omega) (by simp) (by have := hbd.out; have := hbd3.out; simp only [List.length_append, List.length_cons, List.length_nil]; omega) (by simp; omega) ?_; intro v' w' hO' hgr; have hne : ∀ k, (Value.slice ao no co).ownBlock = some k → k ≠ wr.heap.size := fun k hk e => by have := HO3.out.lt k hk; omega))
            have HO4 := Lib.hid hO'; have HQ4 := Lib.hid (Ext.grown (HQ3.out.tr (HX2.out.drew.alloc _)) hgr HO3.out.own); clear hO' hgr; obtain ⟨ao4, co4, rfl, _⟩ := HO4.out.form
            go_wp2
            go_roundw
            case rel => exact ⟨j + 1, _, _, _, by omega, by go_num, rfl, by rw [flatMap_take M.wn hy.out]; simpa [M.wn] using HO4.out, HQ4.out⟩
            case measure => simp [intOf]; omega
          · obtain rfl : j = x.Windows.length := by omega
            go_wp2
            go_roundw
            case rel => exact ⟨k + 1, _, _, _, by omega, by go_num, rfl, by rw [flatMap_take M.pn hx.out]; simpa [M.pn] using HO3.out, HQ3.out⟩
            case measure => simp [intOf]; omega
      · obtain rfl : k = s.Parts.length := by omega
        have hbd := Lib.hid (flat_len M.pn s.Parts s.Parts.length 38 (fun y hy => M.pn_len g0 hy))
        have HP : Hid (Oa 3 w1.heap.size wr (.slice ao no co) ([(s.Parts.length : Int)] ++ s.Parts.flatMap M.pn) []) := by have := HO.out; rwa [List.take_length] at this
        rw [List.take_length] at hbd
        have hcl : s.Channels.length ≤ 8 := M.setv_chans g0
        have hsl : s.Slots.length ≤ 12 := M.setv_slots g0
        clear HO
        go_wp2_with (at_builtin; refine wpl_app (α := Int) rfl _ _ 33 rfl 3 Try.underlying33 elInt (v := .slice ao no co) (ys := [(s.Channels.length : Int)]) rfl (HP.out.ext ((Ext.refl _).alloc _)) rfl rfl (CI.row ⟨by simp, rng_of (by omega) (by omega), trivial⟩) (by omega) (by simp) (by have := hbd.out; simp only [List.length_append, List.length_cons, List.length_nil]; omega) (by simp; omega) ?_; intro v' w' hO' hgr; have HO2 := Lib.hid hO'; have HQ2 := Lib.hid (Ext.grown (HQ.out.alloc _) hgr HP.out.own); obtain ⟨hcb2, hfb2⟩ := bcell HQ2.out; clear hO' hgr hcb hfb; obtain ⟨ao2, co2, rfl, _⟩ := HO2.out.form)
        obtain ⟨wp, rfl⟩ : ∃ wp : World, wp = wr := ⟨_, rfl⟩
        go_loopw [3, 9, 62] (fun out _ i wr => ∃ (k : Nat) (ao : Option Addr) (no co : Nat), k ≤ s.Channels.length ∧ i = .int .i64 k ∧ out = .slice ao no co ∧ Oa 3 w1.heap.size wr (.slice ao no co) (([(s.Parts.length : Int)] ++ s.Parts.flatMap M.pn) ++ [(s.Channels.length : Int)] ++ (s.Channels.take k).flatMap M.cn) [] ∧ Ext w1 wr) (fun _ _ i _ => s.Channels.length - (intOf i).toNat)
        case atStart => exact ⟨0, _, _, _, Nat.zero_le _, rfl, rfl, by simpa using HO2.out, HQ2.out⟩
        case round =>
          clear hcb2 hfb2 HO2 HQ2 HP HQ
          obtain ⟨k, ao, no, co, hk, rfl, rfl, ho, hq⟩ := hrel
          have HO := Lib.hid ho
          have HQ := Lib.hid hq
          clear ho
          have hzs := hq.sz
          obtain ⟨hcb, hfb⟩ := bcell hq
          clear hq
          have hbc := Lib.hid (flat_len M.cn s.Channels k 4 (fun y _ => by simp [M.cn]))
          by_cases hlt : k < s.Channels.length
          · obtain ⟨b, o, x, rfl, hb, hx, hc0, hc1, hc2, hc3, hr0, hr1, hr2, hr3, hv⟩ := (h1.out.ext E1.out).atChannel k hlt
            go_wp2_with (at_builtin; refine wpl_app (α := Int) rfl _ _ 33 rfl 3 Try.underlying33 elInt (v := .slice ao no co) (ys := [x.Kind, x.From, x.To, x.Size]) rfl (HO.out.ext (((Ext.refl _).alloc _).alloc _)) rfl rfl (CI.row ⟨by simp, hr0, by simp, hr1, by simp, hr2, by simp, hr3, trivial⟩) (by omega) (by simp) (by have := hbd.out; have := hbc.out; simp only [List.length_append, List.length_cons, List.length_nil]; omega) (by simp; omega) ?_; intro v' w' hO' hgr; have HO2 := Lib.hid hO'; have HQ2 := Lib.hid (Ext.grown ((HQ.out.alloc _).alloc _) hgr HO.out.own); clear hO' hgr; obtain ⟨ao2, co2, rfl, _⟩ := HO2.out.form)
            go_roundw
            case rel => exact ⟨k + 1, _, _, _, by omega, by go_num, rfl, by rw [flatMap_take M.cn hx.out]; simpa [M.cn] using HO2.out, HQ2.out⟩
            case measure => simp [intOf]; omega
          · obtain rfl : k = s.Channels.length := by omega
            have HP : Hid (Oa 3 w1.heap.size wr (.slice ao no co) (([(s.Parts.length : Int)] ++ s.Parts.flatMap M.pn) ++ [(s.Channels.length : Int)] ++ s.Channels.flatMap M.cn) []) := by have := HO.out; rwa [List.take_length] at this
            rw [List.take_length] at hbc
            clear HO
            go_wp2_with (at_builtin; refine wpl_app (α := Int) rfl _ _ 33 rfl 3 Try.underlying33 elInt (v := .slice ao no co) (ys := [(s.Slots.length : Int)]) rfl (HP.out.ext ((Ext.refl _).alloc _)) rfl rfl (CI.row ⟨by simp, rng_of (by omega) (by omega), trivial⟩) (by omega) (by simp) (by have := hbd.out; have := hbc.out; simp only [List.length_append, List.length_cons, List.length_nil]; omega) (by simp; omega) ?_; intro v' w' hO' hgr; have HO2 := Lib.hid hO'; have HQ2 := Lib.hid (Ext.grown (HQ.out.alloc _) hgr HP.out.own); obtain ⟨hcb2, hfb2⟩ := bcell HQ2.out; clear hO' hgr hcb hfb; obtain ⟨ao2, co2, rfl, _⟩ := HO2.out.form)
            obtain ⟨wq, rfl⟩ : ∃ wq : World, wq = wr := ⟨_, rfl⟩
            go_loopw [3, 11, 87] (fun out _ i wr => ∃ (k : Nat) (ao : Option Addr) (no co : Nat), k ≤ s.Slots.length ∧ i = .int .i64 k ∧ out = .slice ao no co ∧ Oa 3 w1.heap.size wr (.slice ao no co) (([(s.Parts.length : Int)] ++ s.Parts.flatMap M.pn) ++ [(s.Channels.length : Int)] ++ s.Channels.flatMap M.cn ++ [(s.Slots.length : Int)] ++ (s.Slots.take k).flatMap M.sn) [] ∧ Ext w1 wr) (fun _ _ i _ => s.Slots.length - (intOf i).toNat)
            case atStart => exact ⟨0, _, _, _, Nat.zero_le _, rfl, rfl, by simpa using HO2.out, HQ2.out⟩
            case round =>
              clear hcb2 hfb2 HO2 HQ2 HP HQ
              obtain ⟨k, ao, no, co, hk, rfl, rfl, ho, hq⟩ := hrel
              have HO := Lib.hid ho
              have HQ := Lib.hid hq
              clear ho
              have hzs := hq.sz
              obtain ⟨hcb, hfb⟩ := bcell hq
              clear hq
              have hbs := Lib.hid (flat_len M.sn s.Slots k 2 (fun y _ => by simp [M.sn]))
              by_cases hlt : k < s.Slots.length
              · obtain ⟨b, o, x, rfl, hb, hx, hc0, hc1, hr0, hr1, hv⟩ := (h2.out.ext E1.out).atSlot k hlt
                have hwb := M.setv_who g0 (List.mem_of_getElem? hx.out)
                obtain ⟨hwb1, hwb2⟩ := hwb
                go_wp2_with (at_builtin; refine wpl_app (α := Int) rfl _ _ 33 rfl 3 Try.underlying33 elInt (v := .slice ao no co) (ys := [x.Who + 1, x.Ticks]) rfl (HO.out.ext (((Ext.refl _).alloc _).alloc _)) rfl rfl (CI.row ⟨by simp, rng_of (by omega) (by omega), by simp, hr1, trivial⟩) (by omega) (by simp) (by have := hbd.out; have := hbc.out; have := hbs.out; simp only [List.length_append, List.length_cons, List.length_nil]; omega) (by simp; omega) ?_; intro v' w' hO' hgr; have HO2 := Lib.hid hO'; have HQ2 := Lib.hid (Ext.grown ((HQ.out.alloc _).alloc _) hgr HO.out.own); clear hO' hgr; obtain ⟨ao2, co2, rfl, _⟩ := HO2.out.form)
                go_roundw
                case rel => exact ⟨k + 1, _, _, _, by omega, by go_num, rfl, by rw [flatMap_take M.sn hx.out]; simpa [M.sn] using HO2.out, HQ2.out⟩
                case measure => simp [intOf]; omega
              · obtain rfl : k = s.Slots.length := by omega
                have HF : Hid (Oa 3 w1.heap.size wr (.slice ao no co) (M.nums s) []) := by have := HO.out; rw [List.take_length] at this; exact Lib.hid (by simpa [M.nums] using this)
                clear HO
                obtain ⟨a9, c9, e9, _⟩ := HF.out.form
                cases e9
                have hcap := Lib.hid HF.out.cap
                go_wp2_with (go_at_call 28; refine (slices_Clip_int _ (M.nums s) _ _ _ rfl hcap.out.1 hcap.out.2).mono ?_; rintro e w9 ⟨rfl, rfl⟩)
                go_ret
                exact ⟨_, rfl, by rw [hm.out]; exact ((HF.out.mono E1.out.sz).os (Own.nil _ _)).clip, by rw [hm.out]; exact ⟨_, rfl⟩, E1.out.tr HQ.out⟩
theorem impl_SetupNumbers (v : Value) (s : Setup) (w : World) (h : Rv w v s) :
    Calls Try.prog 10 #[v] w fun e w' => ∃ v', e = .returned v' ∧ Os w.heap.size w' v' (M.numbers s) ∧ Ext w w' :=
  (impl_SetupNumbersC v s w h).mono fun e w' ⟨v', h1, h2, _, h4⟩ => ⟨v', h1, h2, h4⟩
end Sk

