/- Contracts of functions of the given program, and lemmas for them: each theorem states the condition under which it holds. -/
import Derived.Test.YtmkibejcdldjeaaChecked
import Derived.Test.YtmkibejcdldjeaaRefc
import Derived.Test.YtmkibejcdldjeaaLeast
import Derived.Test.YtmkibejcdldjeaaPol
namespace Sk
open Go Go.Proofs Go.RowKit
set_option maxHeartbeats 400000
set_option maxRecDepth 100000
set_option linter.unusedVariables false
set_option linter.unusedSimpArgs false
noncomputable def M.leastP (s : Setup) : List (List Bool) := if M.setv s then M.least s.Channels s.Parts.length else []
theorem M.leastP_t {s : Setup} (h : M.setv s = true) : M.leastP s = M.least s.Channels s.Parts.length := if_pos h
theorem M.leastP_f {s : Setup} (h : M.setv s = false) : M.leastP s = [] := if_neg (by rw [h]; decide)
theorem M.setv_csv {s : Setup} (h : M.setv s = true) : M.csv s.Channels s.Parts.length = true := by
  simp only [M.setv, Bool.and_eq_true] at h; exact h.2.1
theorem M.least_len (cs : List Channel) (n : Nat) : (M.least cs n).length = n := by simp [M.least]
theorem range_map_take {α : Type} (f : Nat → α) {n k : Nat} (h : k < n) : ((List.range n).map f).take (k + 1) = ((List.range n).map f).take k ++ [f k] := by
  rw [take_snoc (x := f k) (by simp [h])]
theorem Ov.hi {α : Type} [GT α] {n : Nat} {w w' : World} {v : Value} {x : α} (h : Ov n w v x) (hi : Hi n w w') : Ov n w' v x := by
  obtain ⟨cs, F, rfl, h1, h2⟩ := h
  refine ⟨cs, F, rfl, GT.keep h1 fun k hk => hi.2 k (h2.2 k hk).1, h2.1, fun k hk => ⟨(h2.2 k hk).1, ?_⟩⟩
  obtain ⟨hk1, cs', T, h3⟩ := h2.2 k hk
  exact ⟨cs', T, by unfold Bk at *; rw [hi.2 k hk1]; exact h3⟩
theorem spec_LeastPolicy (v : Value) (s : Setup) (w : World) (h : Rv w v s) (hn : GT.tot s ≤ 1048576) :
    Calls Try.prog 52 #[v] w fun e w' => ∃ v', e = .returned v' ∧ Oo 36 w.heap.size w' v' (M.leastP s) ∧ Ext w w' := by
  have H0 := Lib.hid h
  obtain ⟨a0, c0, a1, c1, a2, c2, rfl, h0, hl0, h1, hl1, h2, hl2⟩ := h.openSetup
  clear h h0 h1 h2
  go_enter Try.func52, Try.ntmps52
  go_wp2_with fail
  refine (spec_l1OwnSetup _ s _ (H0.out.ext ((Ext.refl _).alloc _)) hn).mono ?_
  rintro e w1 ⟨v1, rfl, ho, he⟩
  obtain ⟨p0, q0, p1, q1, p2, q2, rfl, k0, _, k1, _, k2, _⟩ := ho.rv.openSetup
  have HO := Lib.hid (ho.mono (by simp) : Ov (w.heap.size + 1) w1 _ s)
  have HB := Lib.hid ((Bk.new w [.slice a0 s.Parts.length c0, .slice a1 s.Channels.length c1, .slice a2 s.Slots.length c2] 27).ext he)
  have E1 := Lib.hid ((Ext.refl w).alloc (.cells #[.slice a0 s.Parts.length c0, .slice a1 s.Channels.length c1, .slice a2 s.Slots.length c2] 27) |>.tr he)
  clear ho he
  have f0 := HB.out.cell (j := 0) rfl
  have f1 := HB.out.cell (j := 1) rfl
  have f2 := HB.out.cell (j := 2) rfl
  have fz := HB.out.fz
  go_upto_region 2 with (fail)
  refine abs_world (fun W => Ext w W ∧ w.heap.size < W.heap.size ∧ Bk W w.heap.size [.slice p0 s.Parts.length q0, .slice p1 s.Channels.length q1, .slice p2 s.Slots.length q2] 27 ∧ Rv W (.agg #[.slice p0 s.Parts.length q0, .slice p1 s.Channels.length q1, .slice p2 s.Slots.length q2]) s)
    ⟨((E1.out.set (Nat.le_refl _) _).set (Nat.le_refl _) _).set (Nat.le_refl _) _, by have := HB.out.lt; simpa using this, (Bk.set (Bk.set (Bk.set HB.out 0 _) 1 _) 2 _), Ov.rv (Ov.hi HO.out (n := w.heap.size + 1) (Hi.set (Hi.set (Hi.set (Hi.refl _ _) (by simp) _) (by simp) _) (by simp) _))⟩ ?_
  rintro w2 ⟨e2, hA, hb, hr⟩
  clear f0 f1 f2 fz HB HO E1 k0 k1 k2 H0
  obtain ⟨_, _, _, _, _, _, e, k0, _, k1, _, k2, _⟩ := hr.openSetup
  cases e
  have E2 := Lib.hid e2
  have HR := Lib.hid hr
  have KB := Lib.hid hb
  clear e2 hr hb
  have f0 := KB.out.cell (j := 0) rfl
  cases g : M.setv s
  · have hm := Lib.hid (M.leastP_f g)
    have HV := Lib.hid g
    go_wp2
    clear f0
    go_loopw [3, 5] (fun out i wr => out = .slice (some ⟨w2.heap.size, 0, none⟩) 0 0 ∧ i = .int .i64 0 ∧ Oo (α := List Bool) 36 w.heap.size wr out [] ∧ Ext w2 wr) (fun _ _ _ => 0)
    case atStart => exact ⟨rfl, rfl, (Oo.lit0 _ _).mono E2.out.sz, (Ext.refl _).alloc _⟩
    case round =>
      obtain ⟨rfl, rfl, ho, hq⟩ := hrel
      have HO := Lib.hid ho
      have HQ := Lib.hid hq
      clear ho hq
      have f0 := (KB.out.ext HQ.out).cell (j := 0) rfl
      have f1 := (KB.out.ext HQ.out).cell (j := 1) rfl
      have f2 := (KB.out.ext HQ.out).cell (j := 2) rfl
      by_cases hz : 0 < s.Parts.length
      · go_wp2_with (go_at_call 16; refine (spec_SetupValid _ s _ (HR.out.ext HQ.out)).mono ?_; rintro e w3 ⟨rfl, he3⟩; have E3 := Lib.hid he3; clear he3)
        go_ret
        exact ⟨_, rfl, by rw [hm.out]; exact HO.out.ext E3.out, E2.out.tr (HQ.out.tr E3.out)⟩
      · go_wp2
        go_ret
        exact ⟨_, rfl, by rw [hm.out]; exact HO.out, E2.out.tr HQ.out⟩
  · have hm := Lib.hid (M.leastP_t g)
    have HV := Lib.hid (M.setv_csv g)
    have hp5 := M.setv_parts g
    generalize hn' : s.Parts.length = n at *
    go_wp2
    clear f0
    go_loopw [3, 5] (fun out i wr => ∃ (k : Nat) (ao : Option Addr) (no co : Nat), k ≤ n ∧ i = .int .i64 k ∧ out = .slice ao no co ∧ Oo 36 w2.heap.size wr (.slice ao no co) ((M.least s.Channels n).take k) ∧ Ext w2 wr) (fun _ i _ => n - (intOf i).toNat)
    case atStart => exact ⟨0, _, _, _, Nat.zero_le _, rfl, rfl, Oo.lit0 _ _, (Ext.refl _).alloc _⟩
    case round =>
      obtain ⟨k, ao, no, co, hk, rfl, rfl, ho, hq⟩ := hrel
      have HO := Lib.hid ho
      have HQ := Lib.hid hq
      clear ho hq
      by_cases hkt : k < n
      · have f0 := (KB.out.ext HQ.out).cell (j := 0) rfl
        have f1 := (KB.out.ext HQ.out).cell (j := 1) rfl
        have f2 := (KB.out.ext HQ.out).cell (j := 2) rfl
        go_wp2_with (go_at_call 16; refine (spec_SetupValid _ s _ (HR.out.ext HQ.out)).mono ?_; rintro e w3 ⟨rfl, he3⟩; have E3 := Lib.hid he3; clear he3)
        clear f0 f1 f2
        go_loopw [6, 7] (fun out i wr => ∃ (j : Nat) (aj : Option Addr) (nj cj : Nat), j ≤ n ∧ i = .int .i64 j ∧ out = .slice aj nj cj ∧ Oo 4 w3.heap.size wr (.slice aj nj cj) (((List.range n).map fun c => (M.flows s.Channels n c).getD k false).take j) ∧ Ext w3 wr) (fun _ i _ => n - (intOf i).toNat)
        case atStart => exact ⟨0, _, _, _, Nat.zero_le _, rfl, rfl, Oo.lit0 _ _, (Ext.refl _).alloc _⟩
        case round =>
          obtain ⟨j, aj, nj, cj, hj, rfl, rfl, ho, hq⟩ := hrel
          have HO3 := Lib.hid ho
          have HQ3 := Lib.hid hq
          clear ho hq
          by_cases hjt : j < n
          · have hE := Lib.hid (HQ.out.tr (E3.out.tr HQ3.out))
            have f1 := (KB.out.ext hE.out).cell (j := 1) rfl
            have hst := Lib.hid (range_map_take (fun c => (M.flows s.Channels n c).getD k false) hjt)
            have hLn := M.flows_len s.Channels n j
            go_wp2_with (first
              | (go_at_call 84; refine (spec_FlowsTo _ _ n j _ (k1.out.ext hE.out) HV.out hjt).mono ?_; rintro e w4 ⟨v4, rfl, ho4, he4⟩; obtain ⟨a4, c4, rfl, _⟩ := ho4.form; obtain ⟨b9, o9, y, rfl, hb9, hy, hcy⟩ := ho4.rs.atBool k (by rw [M.flows_len]; exact hkt); have E4 := Lib.hid he4; clear ho4 he4)
              | (at_builtin; refine wpl_appO (u := wr) (α := Bool) rfl _ _ 36 rfl 4 Try.underlying36 elBool (v := .slice aj nj cj) (ys := [y]) rfl HO3.out (E4.out.alloc _) HQ3.out.sz rfl rfl (Row.lit1 (cs := [_]) ⟨rfl, rfl⟩) (by simp) (Own.nil _ _) (by simp; omega) ?_; intro v5 w5 hO5 hg5; have HO5 := Lib.hid hO5; have HE5 := Lib.hid (Ext.grown (HQ3.out.tr (E4.out.alloc _)) hg5 HO3.out.own); clear hO5 hg5; obtain ⟨p5, q5, rfl, _⟩ := HO5.out.form))
            go_roundw
            case rel => exact ⟨j + 1, _, _, _, by omega, by go_num, rfl, HO5.out.cast (by rw [hst.out, List.getD_eq_getElem?_getD, hy.out]; rfl) (by simp; omega), HE5.out⟩
            case measure => simp [intOf]; omega
          · obtain rfl : j = n := by omega
            have hst : Hid ((M.least s.Channels j).take (k + 1) = (M.least s.Channels j).take k ++ [(List.range j).map fun c => (M.flows s.Channels j c).getD k false]) := Lib.hid (range_map_take (fun i => (List.range j).map fun c => (M.flows s.Channels j c).getD i false) hkt)
            have HF := Lib.hid (by have := HO3.out; rwa [List.take_of_length_le (by simp)] at this : Oo 4 w3.heap.size wr (.slice aj nj cj) ((List.range j).map fun c => (M.flows s.Channels j c).getD k false))
            have hlen := Lib.hid (M.least_len s.Channels j)
            go_wp2_with (at_builtin; obtain ⟨F1, hs1, hw1⟩ := HF.out.os; refine wpl_appO (u := w3) (α := List Bool) rfl _ _ 28 rfl 36 Try.underlying28 elBoolS (v := .slice ao no co) (ys := [(List.range j).map fun c => (M.flows s.Channels j c).getD k false]) rfl (HO.out.ext E3.out) (HQ3.out.alloc _) (Nat.le_trans HQ.out.sz E3.out.sz) rfl rfl (Row.lit1 (cs := [_]) ⟨_, rfl, hs1⟩) (by simp) (hw1.ext ((Ext.refl _).alloc _)) (by have := hlen.out; simp; omega) ?_; intro v5 w5 hO5 hg5; have HO5 := Lib.hid hO5; have HE5 := Lib.hid (Ext.grown (HQ.out.tr (E3.out.tr (HQ3.out.alloc _))) hg5 HO.out.own); clear hO5 hg5 hs1 hw1; obtain ⟨p5, q5, rfl, _⟩ := HO5.out.form)
            go_roundw
            case rel => exact ⟨k + 1, _, _, _, by omega, by go_num, rfl, HO5.out.cast hst.out (by have := hlen.out; first | (simp; done) | (simp; omega)), HE5.out⟩
            case measure => simp [intOf]; omega
      · have HF : Hid (Oo 36 w.heap.size wr (.slice ao no co) (M.least s.Channels n)) := Lib.hid (by have := HO.out.mono E2.out.sz; rwa [List.take_of_length_le (by rw [M.least_len]; omega)] at this)
        go_wp2
        go_ret
        exact ⟨_, rfl, by rw [hm.out]; exact HF.out, E2.out.tr HQ.out⟩
end Sk

namespace Sk
open Go Go.RowKit
set_option linter.unusedVariables false
set_option linter.unusedSimpArgs false
class CtB (α : Type) [GT α] : Prop where
  le : ∀ x : α, GT.ct x ≤ 16 * GT.tot x + 6
theorem ct_list {α : Type} [GT α] [CtB α] (xs : List α) : GT.ct xs ≤ 16 * GT.tot xs := by
  have h : (xs.map GT.ct).sum ≤ 16 * (xs.map GT.tot).sum + 6 * xs.length := by
    induction xs with
    | nil => simp
    | cons x xs ih =>
      have := CtB.le x
      simp only [List.map_cons, List.sum_cons, List.length_cons]; omega
  show (xs.map GT.ct).sum ≤ 16 * (xs.length + (xs.map GT.tot).sum)
  omega
instance : CtB Int := ⟨fun x => by show 1 ≤ _; omega⟩
instance : CtB Bool := ⟨fun x => by show 1 ≤ _; omega⟩
instance {α : Type} [GT α] [CtB α] : CtB (List α) := ⟨fun xs => by have := ct_list xs; omega⟩
instance : CtB Window := ⟨fun x => by
  have h1 : GT.ct x = (GT.ct x.Base + GT.ct x.Size + GT.ct x.Write) := rfl
  have h2 : GT.tot x = (GT.tot x.Base + GT.tot x.Size + GT.tot x.Write) := rfl
  have g0 : GT.ct x.Base = 1 := rfl
  have g1 : GT.ct x.Size = 1 := rfl
  have g2 : GT.ct x.Write = 1 := rfl
  omega⟩
instance : CtB Part := ⟨fun x => by
  have h1 : GT.ct x = (GT.ct x.Windows + GT.ct x.Cells) := rfl
  have h2 : GT.tot x = (GT.tot x.Windows + GT.tot x.Cells) := rfl
  have g0 := ct_list x.Windows
  have g1 : GT.ct x.Cells = 1 := rfl
  omega⟩
instance : CtB Channel := ⟨fun x => by
  have h1 : GT.ct x = (GT.ct x.Kind + GT.ct x.From + GT.ct x.To + GT.ct x.Size) := rfl
  have h2 : GT.tot x = (GT.tot x.Kind + GT.tot x.From + GT.tot x.To + GT.tot x.Size) := rfl
  have g0 : GT.ct x.Kind = 1 := rfl
  have g1 : GT.ct x.From = 1 := rfl
  have g2 : GT.ct x.To = 1 := rfl
  have g3 : GT.ct x.Size = 1 := rfl
  omega⟩
instance : CtB Slot := ⟨fun x => by
  have h1 : GT.ct x = (GT.ct x.Who + GT.ct x.Ticks) := rfl
  have h2 : GT.tot x = (GT.tot x.Who + GT.tot x.Ticks) := rfl
  have g0 : GT.ct x.Who = 1 := rfl
  have g1 : GT.ct x.Ticks = 1 := rfl
  omega⟩
instance : CtB Setup := ⟨fun x => by
  have h1 : GT.ct x = (GT.ct x.Parts + GT.ct x.Channels + GT.ct x.Slots) := rfl
  have h2 : GT.tot x = (GT.tot x.Parts + GT.tot x.Channels + GT.tot x.Slots) := rfl
  have g0 := ct_list x.Parts
  have g1 := ct_list x.Channels
  have g2 := ct_list x.Slots
  omega⟩
instance : CtB Order := ⟨fun x => by
  have h1 : GT.ct x = (GT.ct x.Op + GT.ct x.A + GT.ct x.B) := rfl
  have h2 : GT.tot x = (GT.tot x.Op + GT.tot x.A + GT.tot x.B) := rfl
  have g0 : GT.ct x.Op = 1 := rfl
  have g1 : GT.ct x.A = 1 := rfl
  have g2 : GT.ct x.B = 1 := rfl
  omega⟩
instance : CtB Core := ⟨fun x => by
  have h1 : GT.ct x = (GT.ct x.Cells + GT.ct x.At + GT.ct x.Stopped) := rfl
  have h2 : GT.tot x = (GT.tot x.Cells + GT.tot x.At + GT.tot x.Stopped) := rfl
  have g0 := ct_list x.Cells
  have g1 : GT.ct x.At = 1 := rfl
  have g2 : GT.ct x.Stopped = 1 := rfl
  omega⟩
instance : CtB Hold := ⟨fun x => by
  have h1 : GT.ct x = (GT.ct x.Lst) := rfl
  have h2 : GT.tot x = (GT.tot x.Lst) := rfl
  have g0 := ct_list x.Lst
  omega⟩
instance : CtB Machine := ⟨fun x => by
  have h1 : GT.ct x = ((GT.ct x.Plan.Parts + GT.ct x.Plan.Channels + GT.ct x.Plan.Slots) + GT.ct x.Programs + GT.ct x.Cores + GT.ct x.Holds + GT.ct x.Tick) := rfl
  have h2 : GT.tot x = ((GT.tot x.Plan.Parts + GT.tot x.Plan.Channels + GT.tot x.Plan.Slots) + GT.tot x.Programs + GT.tot x.Cores + GT.tot x.Holds + GT.tot x.Tick) := rfl
  have g0 := ct_list x.Plan.Parts
  have g1 := ct_list x.Plan.Channels
  have g2 := ct_list x.Plan.Slots
  have g3 := ct_list x.Programs
  have g4 := ct_list x.Cores
  have g5 := ct_list x.Holds
  have g6 : GT.ct x.Tick = 1 := rfl
  omega⟩
instance : CtB Health := ⟨fun x => by
  have h1 : GT.ct x = (GT.ct x.Frozen + GT.ct x.Restarts) := rfl
  have h2 : GT.tot x = (GT.tot x.Frozen + GT.tot x.Restarts) := rfl
  have g0 : GT.ct x.Frozen = 1 := rfl
  have g1 : GT.ct x.Restarts = 1 := rfl
  omega⟩
instance : CtB Watch := ⟨fun x => by
  have h1 : GT.ct x = (((GT.ct x.Box.Plan.Parts + GT.ct x.Box.Plan.Channels + GT.ct x.Box.Plan.Slots) + GT.ct x.Box.Programs + GT.ct x.Box.Cores + GT.ct x.Box.Holds + GT.ct x.Box.Tick) + GT.ct x.States) := rfl
  have h2 : GT.tot x = (((GT.tot x.Box.Plan.Parts + GT.tot x.Box.Plan.Channels + GT.tot x.Box.Plan.Slots) + GT.tot x.Box.Programs + GT.tot x.Box.Cores + GT.tot x.Box.Holds + GT.tot x.Box.Tick) + GT.tot x.States) := rfl
  have g0 := ct_list x.Box.Plan.Parts
  have g1 := ct_list x.Box.Plan.Channels
  have g2 := ct_list x.Box.Plan.Slots
  have g3 := ct_list x.Box.Programs
  have g4 := ct_list x.Box.Cores
  have g5 := ct_list x.Box.Holds
  have g6 : GT.ct x.Box.Tick = 1 := rfl
  have g7 := ct_list x.States
  omega⟩
instance : CtB Wire := ⟨fun x => by
  have h1 : GT.ct x = (GT.ct x.From + GT.ct x.FromPart + GT.ct x.FromCell + GT.ct x.To + GT.ct x.ToPart + GT.ct x.ToCell) := rfl
  have h2 : GT.tot x = (GT.tot x.From + GT.tot x.FromPart + GT.tot x.FromCell + GT.tot x.To + GT.tot x.ToPart + GT.tot x.ToCell) := rfl
  have g0 : GT.ct x.From = 1 := rfl
  have g1 : GT.ct x.FromPart = 1 := rfl
  have g2 : GT.ct x.FromCell = 1 := rfl
  have g3 : GT.ct x.To = 1 := rfl
  have g4 : GT.ct x.ToPart = 1 := rfl
  have g5 : GT.ct x.ToCell = 1 := rfl
  omega⟩
instance : CtB Board := ⟨fun x => by
  have h1 : GT.ct x = (GT.ct x.Boxes + GT.ct x.Wires) := rfl
  have h2 : GT.tot x = (GT.tot x.Boxes + GT.tot x.Wires) := rfl
  have g0 := ct_list x.Boxes
  have g1 := ct_list x.Wires
  omega⟩
theorem sum_le {α : Type} (f : α → Nat) (B : Nat) (xs : List α) (h : ∀ x ∈ xs, f x ≤ B) : (xs.map f).sum ≤ xs.length * B := by
  induction xs with
  | nil => simp
  | cons x xs ih =>
    have h1 := h x (List.mem_cons_self ..)
    have h2 := ih (fun y hy => h y (List.mem_cons_of_mem _ hy))
    simp only [List.map_cons, List.sum_cons, List.length_cons, Nat.succ_mul]; omega
theorem tot_list {α : Type} [GT α] (B N : Nat) (xs : List α) (hl : xs.length ≤ N) (h : ∀ x ∈ xs, GT.tot x ≤ B) : GT.tot xs ≤ N + N * B := by
  have h1 := sum_le GT.tot B xs h
  have h2 := Nat.mul_le_mul_right B hl
  show xs.length + (xs.map GT.tot).sum ≤ _
  omega
theorem tot_ints (xs : List Int) : GT.tot xs = xs.length := by
  have : (xs.map GT.tot).sum = 0 := by
    induction xs with
    | nil => rfl
    | cons x xs ih => rw [List.map_cons, List.sum_cons, ih]; rfl
  show xs.length + (xs.map GT.tot).sum = _
  omega
theorem ctT_Setup (x : Setup) : x.ctT ≤ 16 * GT.tot x + 6 := CtB.le x
theorem ctT_Machine (x : Machine) : x.ctT ≤ 16 * GT.tot x + 6 := by
  have h := CtB.le x
  have h1 : GT.ct x = GT.ct x.Plan + GT.ct x.Programs + GT.ct x.Cores + GT.ct x.Holds + GT.ct x.Tick := rfl
  have h2 : x.ctT = GT.ct x.Plan + GT.ct x.Programs + GT.ct x.Cores + GT.ct x.Holds := rfl
  omega
theorem ctT_Watch (x : Watch) : x.ctT ≤ 16 * GT.tot x + 6 := by
  have h := ctT_Machine x.Box
  have h3 := ct_list x.States
  have h1 : GT.tot x = GT.tot x.Box + GT.tot x.States := rfl
  have h2 : x.ctT = x.Box.ctT + GT.ct x.States := rfl
  omega
theorem ctT_Board (x : Board) : x.ctT ≤ 16 * GT.tot x + 6 := CtB.le x
end Sk

