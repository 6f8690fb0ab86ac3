/- Contracts of functions of the given program, each under the condition that it states. -/
import Derived.Test.YtbmdiefanhghcaaGreatChecked
import Derived.Test.YtbmdiefanhghcaaGreatChan
namespace Sk
open Go Go.Proofs Go.RowKit
set_option maxHeartbeats 400000
set_option maxRecDepth 100000
set_option linter.unusedVariables false
set_option linter.unusedSimpArgs false
theorem szIntS (v : Value) (xs : List Int) (left : Int) (w : World) (h : Rs w v xs) (hup : left ≤ 1048576) (hlo : 0 ≤ left) :
  Calls Tryz.prog 191 #[v, .int .i64 left] w fun e w' => (∃ r, e = .returned (.int .i64 r) ∧ -1 ≤ r ∧ r ≤ left ∧ (0 ≤ r → r = left - GT.tot xs)) ∧ Ext w w' := by
 have ht : GT.tot xs = xs.length := by
  have h0 : ∀ ys : List Int, (ys.map GT.tot).sum = 0 := by intro ys; induction ys with
   | nil => rfl
   | cons y ys ih => rw [List.map_cons, List.sum_cons, ih]; rfl
  show xs.length + (xs.map GT.tot).sum = xs.length
  rw [h0]; rfl
 obtain ⟨a, c, rfl, hl⟩ := h.form
 clear h
 go_enter Tryz.func191, Tryz.ntmps191
 go_wp2
 all_goals go_ret
 ·exact ⟨⟨-1, rfl, by omega, by omega, by omega⟩, Ext.refl _⟩
 ·exact ⟨⟨_, rfl, by omega, by omega, fun _ => by omega⟩, Ext.refl _⟩
theorem szWindowS (v : Value) (xs : List Window) (left : Int) (w : World) (h : Rs w v xs) (hup : left ≤ 1048576) (hlo : 0 ≤ left) :
  Calls Tryz.prog 233 #[v, .int .i64 left] w fun e w' => (∃ r, e = .returned (.int .i64 r) ∧ -1 ≤ r ∧ r ≤ left ∧ (0 ≤ r → r = left - GT.tot xs)) ∧ Ext w w' := by
 have ht : GT.tot xs = xs.length := by
  have h0 : ∀ ys : List Window, (ys.map GT.tot).sum = 0 := by intro ys; induction ys with
   | nil => rfl
   | cons y ys ih => rw [List.map_cons, List.sum_cons, ih]; rfl
  show xs.length + (xs.map GT.tot).sum = xs.length
  rw [h0]; rfl
 obtain ⟨a, c, rfl, hl⟩ := h.form
 clear h
 go_enter Tryz.func233, Tryz.ntmps233
 go_wp2
 all_goals go_ret
 ·exact ⟨⟨-1, rfl, by omega, by omega, by omega⟩, Ext.refl _⟩
 ·exact ⟨⟨_, rfl, by omega, by omega, fun _ => by omega⟩, Ext.refl _⟩
theorem szChannelS (v : Value) (xs : List Channel) (left : Int) (w : World) (h : Rs w v xs) (hup : left ≤ 1048576) (hlo : 0 ≤ left) :
  Calls Tryz.prog 129 #[v, .int .i64 left] w fun e w' => (∃ r, e = .returned (.int .i64 r) ∧ -1 ≤ r ∧ r ≤ left ∧ (0 ≤ r → r = left - GT.tot xs)) ∧ Ext w w' := by
 have ht : GT.tot xs = xs.length := by
  have h0 : ∀ ys : List Channel, (ys.map GT.tot).sum = 0 := by intro ys; induction ys with
   | nil => rfl
   | cons y ys ih => rw [List.map_cons, List.sum_cons, ih]; rfl
  show xs.length + (xs.map GT.tot).sum = xs.length
  rw [h0]; rfl
 obtain ⟨a, c, rfl, hl⟩ := h.form
 clear h
 go_enter Tryz.func129, Tryz.ntmps129
 go_wp2
 all_goals go_ret
 ·exact ⟨⟨-1, rfl, by omega, by omega, by omega⟩, Ext.refl _⟩
 ·exact ⟨⟨_, rfl, by omega, by omega, fun _ => by omega⟩, Ext.refl _⟩
theorem szSlotS (v : Value) (xs : List Slot) (left : Int) (w : World) (h : Rs w v xs) (hup : left ≤ 1048576) (hlo : 0 ≤ left) :
  Calls Tryz.prog 130 #[v, .int .i64 left] w fun e w' => (∃ r, e = .returned (.int .i64 r) ∧ -1 ≤ r ∧ r ≤ left ∧ (0 ≤ r → r = left - GT.tot xs)) ∧ Ext w w' := by
 have ht : GT.tot xs = xs.length := by
  have h0 : ∀ ys : List Slot, (ys.map GT.tot).sum = 0 := by intro ys; induction ys with
   | nil => rfl
   | cons y ys ih => rw [List.map_cons, List.sum_cons, ih]; rfl
  show xs.length + (xs.map GT.tot).sum = xs.length
  rw [h0]; rfl
 obtain ⟨a, c, rfl, hl⟩ := h.form
 clear h
 go_enter Tryz.func130, Tryz.ntmps130
 go_wp2
 all_goals go_ret
 ·exact ⟨⟨-1, rfl, by omega, by omega, by omega⟩, Ext.refl _⟩
 ·exact ⟨⟨_, rfl, by omega, by omega, fun _ => by omega⟩, Ext.refl _⟩
theorem szOrderS (v : Value) (xs : List Order) (left : Int) (w : World) (h : Rs w v xs) (hup : left ≤ 1048576) (hlo : 0 ≤ left) :
  Calls Tryz.prog 131 #[v, .int .i64 left] w fun e w' => (∃ r, e = .returned (.int .i64 r) ∧ -1 ≤ r ∧ r ≤ left ∧ (0 ≤ r → r = left - GT.tot xs)) ∧ Ext w w' := by
 have ht : GT.tot xs = xs.length := by
  have h0 : ∀ ys : List Order, (ys.map GT.tot).sum = 0 := by intro ys; induction ys with
   | nil => rfl
   | cons y ys ih => rw [List.map_cons, List.sum_cons, ih]; rfl
  show xs.length + (xs.map GT.tot).sum = xs.length
  rw [h0]; rfl
 obtain ⟨a, c, rfl, hl⟩ := h.form
 clear h
 go_enter Tryz.func131, Tryz.ntmps131
 go_wp2
 all_goals go_ret
 ·exact ⟨⟨-1, rfl, by omega, by omega, by omega⟩, Ext.refl _⟩
 ·exact ⟨⟨_, rfl, by omega, by omega, fun _ => by omega⟩, Ext.refl _⟩
theorem szHealthS (v : Value) (xs : List Health) (left : Int) (w : World) (h : Rs w v xs) (hup : left ≤ 1048576) (hlo : 0 ≤ left) :
  Calls Tryz.prog 32 #[v, .int .i64 left] w fun e w' => (∃ r, e = .returned (.int .i64 r) ∧ -1 ≤ r ∧ r ≤ left ∧ (0 ≤ r → r = left - GT.tot xs)) ∧ Ext w w' := by
 have ht : GT.tot xs = xs.length := by
  have h0 : ∀ ys : List Health, (ys.map GT.tot).sum = 0 := by intro ys; induction ys with
   | nil => rfl
   | cons y ys ih => rw [List.map_cons, List.sum_cons, ih]; rfl
  show xs.length + (xs.map GT.tot).sum = xs.length
  rw [h0]; rfl
 obtain ⟨a, c, rfl, hl⟩ := h.form
 clear h
 go_enter Tryz.func32, Tryz.ntmps32
 go_wp2
 all_goals go_ret
 ·exact ⟨⟨-1, rfl, by omega, by omega, by omega⟩, Ext.refl _⟩
 ·exact ⟨⟨_, rfl, by omega, by omega, fun _ => by omega⟩, Ext.refl _⟩
theorem szOrderSS (v : Value) (xs : List (List Order)) (left : Int) (w : World) (h : Rs w v xs) (hup : left ≤ 1048576) (hlo : 0 ≤ left) :
  Calls Tryz.prog 69 #[v, .int .i64 left] w fun e w' => (∃ r, e = .returned (.int .i64 r) ∧ -1 ≤ r ∧ r ≤ left ∧ (0 ≤ r → r = left - GT.tot xs)) ∧ Ext w w' := by
 obtain ⟨a, c, rfl, hl⟩ := h.form
 have H := zh h
 clear h
 by_cases h1 : left - xs.length < 0
 ·go_enter Tryz.func69, Tryz.ntmps69
  go_wp2
  go_ret
  exact ⟨⟨-1, rfl, by omega, by omega, by omega⟩, Ext.refl _⟩
 ·go_enter Tryz.func69, Tryz.ntmps69
  go_wp2
  go_loopw [1, 5] (fun l i wr => ∃ (k : Nat) (r : Int), k ≤ xs.length ∧ i = .int .i64 k ∧ l = .int .i64 r ∧ 0 ≤ r ∧ r ≤ left ∧ Hid (r = left - xs.length - totK xs k) ∧ Ext w wr) (fun _ i _ => xs.length - (intOf i).toNat)
  case atStart => exact ⟨0, left - xs.length, Nat.zero_le _, by go_num, by go_num, by omega, by omega, zh (by simp [totK_zero]), Ext.refl _⟩
  case round =>
   obtain ⟨k, r, hk, rfl, rfl, hr0, hr1, HS, he⟩ := hrel
   have HE := zh he
   clear he
   by_cases hlt : k < xs.length
   ·obtain ⟨b, o, x, a', c', rfl, _, hx1, hc1, HR, hl'⟩ := (H.out.ext HE.out).atList k hlt
    clear H
    go_wp2_with fail
    refine (szOrderS _ _ _ _ HR.out (by omega) (by omega)).mono ?_
    rintro e w1 ⟨⟨r', rfl, hn, hu, hr3⟩, he⟩
    have HR3 := zh hr3
    have HE2 := zh (HE.out.tr he)
    clear hr3 he
    by_cases hneg : r' < 0
    ·go_wp2
     go_ret
     exact ⟨⟨-1, rfl, by omega, by omega, by omega⟩, HE2.out⟩
    ·go_wp2
     go_roundw
     case rel =>
      refine ⟨k + 1, _, by omega, by go_num, rfl, by omega, by omega, zh ?_, HE2.out⟩
      have h1 := HR3.out (by omega)
      have h2 := HS.out
      have h3 := totK_succ hx1.out
      omega
     case measure => simp [intOf]; omega
   ·obtain rfl : k = xs.length := by omega
    go_wp2
    go_ret
    exact ⟨⟨r, rfl, by omega, by omega, fun _ => by have h1 := HS.out; have h2 := totK_all xs; omega⟩, HE.out⟩
theorem szPart (v : Value) (x : Part) (left : Int) (w : World) (h : Rv w v x) (hup : left ≤ 1048576) (hlo : 0 ≤ left) :
  Calls Tryz.prog 190 #[v, .int .i64 left] w fun e w' => (∃ r, e = .returned (.int .i64 r) ∧ -1 ≤ r ∧ r ≤ left ∧ (0 ≤ r → r = left - GT.tot x)) ∧ Ext w w' := by
 have ht : Hid (GT.tot x = GT.tot x.Windows + GT.tot x.Cells) := zh rfl
 have z_Cells : GT.tot x.Cells = 0 := rfl
 obtain ⟨a0, c0, rfl, r1, h0, l0⟩ := h.openPart
 clear h
 have E0 := zh ((Ext.refl w).alloc (.cells #[.slice a0 x.Windows.length c0, .int .i64 x.Cells] 228))
 have X0 := zh (Ext.refl (w.alloc (.cells #[.slice a0 x.Windows.length c0, .int .i64 x.Cells] 228)))
 go_enter Tryz.func190, Tryz.ntmps190
 go_wp2_with fail
 refine (szWindowS _ _ _ _ (h0.out.ext E0.out) (by omega) (by omega)).mono ?_
 rintro e w1 ⟨⟨s0, rfl, n0, u0, t0⟩, he⟩
 have R0 := zh t0
 have E1 := zh (E0.out.tr he)
 have X1 := zh (X0.out.tr he)
 obtain ⟨hcb0, hfb0⟩ := bcell X1.out
 clear t0 he
 by_cases g0 : s0 < 0
 ·go_wp2
  go_ret
  exact ⟨⟨-1, rfl, by omega, by omega, by omega⟩, E1.out⟩
 ·go_wp2
  go_ret
  exact ⟨⟨_, rfl, by omega, by omega, fun _ => by have q0 := R0.out (by omega); have q := ht.out; omega⟩, E1.out⟩
theorem szPartS (v : Value) (xs : List Part) (left : Int) (w : World) (h : Rs w v xs) (hup : left ≤ 1048576) (hlo : 0 ≤ left) :
  Calls Tryz.prog 128 #[v, .int .i64 left] w fun e w' => (∃ r, e = .returned (.int .i64 r) ∧ -1 ≤ r ∧ r ≤ left ∧ (0 ≤ r → r = left - GT.tot xs)) ∧ Ext w w' := by
 obtain ⟨a, c, rfl, hl⟩ := h.form
 have H := zh h
 clear h
 by_cases h1 : left - xs.length < 0
 ·go_enter Tryz.func128, Tryz.ntmps128
  go_wp2
  go_ret
  exact ⟨⟨-1, rfl, by omega, by omega, by omega⟩, Ext.refl _⟩
 ·go_enter Tryz.func128, Tryz.ntmps128
  go_wp2
  go_loopw [1, 5] (fun l i wr => ∃ (k : Nat) (r : Int), k ≤ xs.length ∧ i = .int .i64 k ∧ l = .int .i64 r ∧ 0 ≤ r ∧ r ≤ left ∧ Hid (r = left - xs.length - totK xs k) ∧ Ext w wr) (fun _ i _ => xs.length - (intOf i).toNat)
  case atStart => exact ⟨0, left - xs.length, Nat.zero_le _, by go_num, by go_num, by omega, by omega, zh (by simp [totK_zero]), Ext.refl _⟩
  case round =>
   obtain ⟨k, r, hk, rfl, rfl, hr0, hr1, HS, he⟩ := hrel
   have HE := zh he
   clear he
   by_cases hlt : k < xs.length
   ·obtain ⟨b, o, x, a0, c0, rfl, _, hx1, hc0, hc1, g1, h0, l0, HR⟩ := (H.out.ext HE.out).atPart k hlt
    clear H
    go_wp2_with fail
    refine (szPart _ _ _ _ HR.out (by omega) (by omega)).mono ?_
    rintro e w1 ⟨⟨r', rfl, hn, hu, hr3⟩, he⟩
    have HR3 := zh hr3
    have HE2 := zh (HE.out.tr he)
    clear hr3 he
    by_cases hneg : r' < 0
    ·go_wp2
     go_ret
     exact ⟨⟨-1, rfl, by omega, by omega, by omega⟩, HE2.out⟩
    ·go_wp2
     go_roundw
     case rel =>
      refine ⟨k + 1, _, by omega, by go_num, rfl, by omega, by omega, zh ?_, HE2.out⟩
      have h1 := HR3.out (by omega)
      have h2 := HS.out
      have h3 := totK_succ hx1.out
      omega
     case measure => simp [intOf]; omega
   ·obtain rfl : k = xs.length := by omega
    go_wp2
    go_ret
    exact ⟨⟨r, rfl, by omega, by omega, fun _ => by have h1 := HS.out; have h2 := totK_all xs; omega⟩, HE.out⟩
theorem szSetup (v : Value) (x : Setup) (left : Int) (w : World) (h : Rv w v x) (hup : left ≤ 1048576) (hlo : 0 ≤ left) :
  Calls Tryz.prog 68 #[v, .int .i64 left] w fun e w' => (∃ r, e = .returned (.int .i64 r) ∧ -1 ≤ r ∧ r ≤ left ∧ (0 ≤ r → r = left - GT.tot x)) ∧ Ext w w' := by
 have ht : Hid (GT.tot x = GT.tot x.Parts + GT.tot x.Channels + GT.tot x.Slots) := zh rfl
 obtain ⟨a0, c0, a1, c1, a2, c2, rfl, h0, l0, h1, l1, h2, l2⟩ := h.openSetup
 clear h
 have E0 := zh ((Ext.refl w).alloc (.cells #[.slice a0 x.Parts.length c0, .slice a1 x.Channels.length c1, .slice a2 x.Slots.length c2] 26))
 have X0 := zh (Ext.refl (w.alloc (.cells #[.slice a0 x.Parts.length c0, .slice a1 x.Channels.length c1, .slice a2 x.Slots.length c2] 26)))
 go_enter Tryz.func68, Tryz.ntmps68
 go_wp2_with fail
 refine (szPartS _ _ _ _ (h0.out.ext E0.out) (by omega) (by omega)).mono ?_
 rintro e w1 ⟨⟨s0, rfl, n0, u0, t0⟩, he⟩
 have R0 := zh t0
 have E1 := zh (E0.out.tr he)
 have X1 := zh (X0.out.tr he)
 obtain ⟨hcb0, hfb0⟩ := bcell X1.out
 clear t0 he
 by_cases g0 : s0 < 0
 ·go_wp2
  go_ret
  exact ⟨⟨-1, rfl, by omega, by omega, by omega⟩, E1.out⟩
 ·skip
  go_wp2_with fail
  refine (szChannelS _ _ _ _ (h1.out.ext E1.out) (by omega) (by omega)).mono ?_
  rintro e w2 ⟨⟨s1, rfl, n1, u1, t1⟩, he⟩
  have R1 := zh t1
  have E2 := zh (E1.out.tr he)
  have X2 := zh (X1.out.tr he)
  clear hcb0 hfb0
  obtain ⟨hcb1, hfb1⟩ := bcell X2.out
  clear t1 he
  by_cases g1 : s1 < 0
  ·go_wp2
   go_ret
   exact ⟨⟨-1, rfl, by omega, by omega, by omega⟩, E2.out⟩
  ·skip
   go_wp2_with fail
   refine (szSlotS _ _ _ _ (h2.out.ext E2.out) (by omega) (by omega)).mono ?_
   rintro e w3 ⟨⟨s2, rfl, n2, u2, t2⟩, he⟩
   have R2 := zh t2
   have E3 := zh (E2.out.tr he)
   have X3 := zh (X2.out.tr he)
   clear hcb1 hfb1
   obtain ⟨hcb2, hfb2⟩ := bcell X3.out
   clear t2 he
   by_cases g2 : s2 < 0
   ·go_wp2
    go_ret
    exact ⟨⟨-1, rfl, by omega, by omega, by omega⟩, E3.out⟩
   ·go_wp2
    go_ret
    exact ⟨⟨_, rfl, by omega, by omega, fun _ => by have q0 := R0.out (by omega); have q1 := R1.out (by omega); have q2 := R2.out (by omega); have q := ht.out; omega⟩, E3.out⟩
theorem szCore (v : Value) (x : Core) (left : Int) (w : World) (h : Rv w v x) (hup : left ≤ 1048576) (hlo : 0 ≤ left) :
  Calls Tryz.prog 132 #[v, .int .i64 left] w fun e w' => (∃ r, e = .returned (.int .i64 r) ∧ -1 ≤ r ∧ r ≤ left ∧ (0 ≤ r → r = left - GT.tot x)) ∧ Ext w w' := by
 have ht : Hid (GT.tot x = GT.tot x.Cells + GT.tot x.At + GT.tot x.Stopped) := zh rfl
 have z_At : GT.tot x.At = 0 := rfl
 have z_Stopped : GT.tot x.Stopped = 0 := rfl
 obtain ⟨a0, c0, rfl, r1, h0, l0⟩ := h.openCore
 clear h
 have E0 := zh ((Ext.refl w).alloc (.cells #[.slice a0 x.Cells.length c0, .int .i64 x.At, .bool x.Stopped] 180))
 have X0 := zh (Ext.refl (w.alloc (.cells #[.slice a0 x.Cells.length c0, .int .i64 x.At, .bool x.Stopped] 180)))
 go_enter Tryz.func132, Tryz.ntmps132
 go_wp2_with fail
 refine (szIntS _ _ _ _ (h0.out.ext E0.out) (by omega) (by omega)).mono ?_
 rintro e w1 ⟨⟨s0, rfl, n0, u0, t0⟩, he⟩
 have R0 := zh t0
 have E1 := zh (E0.out.tr he)
 have X1 := zh (X0.out.tr he)
 obtain ⟨hcb0, hfb0⟩ := bcell X1.out
 clear t0 he
 by_cases g0 : s0 < 0
 ·go_wp2
  go_ret
  exact ⟨⟨-1, rfl, by omega, by omega, by omega⟩, E1.out⟩
 ·go_wp2
  go_ret
  exact ⟨⟨_, rfl, by omega, by omega, fun _ => by have q0 := R0.out (by omega); have q := ht.out; omega⟩, E1.out⟩
theorem szCoreS (v : Value) (xs : List Core) (left : Int) (w : World) (h : Rs w v xs) (hup : left ≤ 1048576) (hlo : 0 ≤ left) :
  Calls Tryz.prog 70 #[v, .int .i64 left] w fun e w' => (∃ r, e = .returned (.int .i64 r) ∧ -1 ≤ r ∧ r ≤ left ∧ (0 ≤ r → r = left - GT.tot xs)) ∧ Ext w w' := by
 obtain ⟨a, c, rfl, hl⟩ := h.form
 have H := zh h
 clear h
 by_cases h1 : left - xs.length < 0
 ·go_enter Tryz.func70, Tryz.ntmps70
  go_wp2
  go_ret
  exact ⟨⟨-1, rfl, by omega, by omega, by omega⟩, Ext.refl _⟩
 ·go_enter Tryz.func70, Tryz.ntmps70
  go_wp2
  go_loopw [1, 5] (fun l i wr => ∃ (k : Nat) (r : Int), k ≤ xs.length ∧ i = .int .i64 k ∧ l = .int .i64 r ∧ 0 ≤ r ∧ r ≤ left ∧ Hid (r = left - xs.length - totK xs k) ∧ Ext w wr) (fun _ i _ => xs.length - (intOf i).toNat)
  case atStart => exact ⟨0, left - xs.length, Nat.zero_le _, by go_num, by go_num, by omega, by omega, zh (by simp [totK_zero]), Ext.refl _⟩
  case round =>
   obtain ⟨k, r, hk, rfl, rfl, hr0, hr1, HS, he⟩ := hrel
   have HE := zh he
   clear he
   by_cases hlt : k < xs.length
   ·obtain ⟨b, o, x, a0, c0, rfl, _, hx1, hc0, hc1, hc2, g1, h0, l0, HR⟩ := (H.out.ext HE.out).atCore k hlt
    clear H
    go_wp2_with fail
    refine (szCore _ _ _ _ HR.out (by omega) (by omega)).mono ?_
    rintro e w1 ⟨⟨r', rfl, hn, hu, hr3⟩, he⟩
    have HR3 := zh hr3
    have HE2 := zh (HE.out.tr he)
    clear hr3 he
    by_cases hneg : r' < 0
    ·go_wp2
     go_ret
     exact ⟨⟨-1, rfl, by omega, by omega, by omega⟩, HE2.out⟩
    ·go_wp2
     go_roundw
     case rel =>
      refine ⟨k + 1, _, by omega, by go_num, rfl, by omega, by omega, zh ?_, HE2.out⟩
      have h1 := HR3.out (by omega)
      have h2 := HS.out
      have h3 := totK_succ hx1.out
      omega
     case measure => simp [intOf]; omega
   ·obtain rfl : k = xs.length := by omega
    go_wp2
    go_ret
    exact ⟨⟨r, rfl, by omega, by omega, fun _ => by have h1 := HS.out; have h2 := totK_all xs; omega⟩, HE.out⟩
theorem szHold (v : Value) (x : Hold) (left : Int) (w : World) (h : Rv w v x) (hup : left ≤ 1048576) (hlo : 0 ≤ left) :
  Calls Tryz.prog 133 #[v, .int .i64 left] w fun e w' => (∃ r, e = .returned (.int .i64 r) ∧ -1 ≤ r ∧ r ≤ left ∧ (0 ≤ r → r = left - GT.tot x)) ∧ Ext w w' := by
 have ht : Hid (GT.tot x = GT.tot x.Lst) := zh rfl
 obtain ⟨a0, c0, rfl, h0, l0⟩ := h.openHold
 clear h
 have E0 := zh ((Ext.refl w).alloc (.cells #[.slice a0 x.Lst.length c0] 182))
 have X0 := zh (Ext.refl (w.alloc (.cells #[.slice a0 x.Lst.length c0] 182)))
 go_enter Tryz.func133, Tryz.ntmps133
 go_wp2_with fail
 refine (szIntS _ _ _ _ (h0.out.ext E0.out) (by omega) (by omega)).mono ?_
 rintro e w1 ⟨⟨s0, rfl, n0, u0, t0⟩, he⟩
 have R0 := zh t0
 have E1 := zh (E0.out.tr he)
 have X1 := zh (X0.out.tr he)
 obtain ⟨hcb0, hfb0⟩ := bcell X1.out
 clear t0 he
 by_cases g0 : s0 < 0
 ·go_wp2
  go_ret
  exact ⟨⟨-1, rfl, by omega, by omega, by omega⟩, E1.out⟩
 ·go_wp2
  go_ret
  exact ⟨⟨_, rfl, by omega, by omega, fun _ => by have q0 := R0.out (by omega); have q := ht.out; omega⟩, E1.out⟩
theorem szHoldS (v : Value) (xs : List Hold) (left : Int) (w : World) (h : Rs w v xs) (hup : left ≤ 1048576) (hlo : 0 ≤ left) :
  Calls Tryz.prog 71 #[v, .int .i64 left] w fun e w' => (∃ r, e = .returned (.int .i64 r) ∧ -1 ≤ r ∧ r ≤ left ∧ (0 ≤ r → r = left - GT.tot xs)) ∧ Ext w w' := by
 obtain ⟨a, c, rfl, hl⟩ := h.form
 have H := zh h
 clear h
 by_cases h1 : left - xs.length < 0
 ·go_enter Tryz.func71, Tryz.ntmps71
  go_wp2
  go_ret
  exact ⟨⟨-1, rfl, by omega, by omega, by omega⟩, Ext.refl _⟩
 ·go_enter Tryz.func71, Tryz.ntmps71
  go_wp2
  go_loopw [1, 5] (fun l i wr => ∃ (k : Nat) (r : Int), k ≤ xs.length ∧ i = .int .i64 k ∧ l = .int .i64 r ∧ 0 ≤ r ∧ r ≤ left ∧ Hid (r = left - xs.length - totK xs k) ∧ Ext w wr) (fun _ i _ => xs.length - (intOf i).toNat)
  case atStart => exact ⟨0, left - xs.length, Nat.zero_le _, by go_num, by go_num, by omega, by omega, zh (by simp [totK_zero]), Ext.refl _⟩
  case round =>
   obtain ⟨k, r, hk, rfl, rfl, hr0, hr1, HS, he⟩ := hrel
   have HE := zh he
   clear he
   by_cases hlt : k < xs.length
   ·obtain ⟨b, o, x, a0, c0, rfl, _, hx1, hc0, h0, l0, HR⟩ := (H.out.ext HE.out).atHold k hlt
    clear H
    go_wp2_with fail
    refine (szHold _ _ _ _ HR.out (by omega) (by omega)).mono ?_
    rintro e w1 ⟨⟨r', rfl, hn, hu, hr3⟩, he⟩
    have HR3 := zh hr3
    have HE2 := zh (HE.out.tr he)
    clear hr3 he
    by_cases hneg : r' < 0
    ·go_wp2
     go_ret
     exact ⟨⟨-1, rfl, by omega, by omega, by omega⟩, HE2.out⟩
    ·go_wp2
     go_roundw
     case rel =>
      refine ⟨k + 1, _, by omega, by go_num, rfl, by omega, by omega, zh ?_, HE2.out⟩
      have h1 := HR3.out (by omega)
      have h2 := HS.out
      have h3 := totK_succ hx1.out
      omega
     case measure => simp [intOf]; omega
   ·obtain rfl : k = xs.length := by omega
    go_wp2
    go_ret
    exact ⟨⟨r, rfl, by omega, by omega, fun _ => by have h1 := HS.out; have h2 := totK_all xs; omega⟩, HE.out⟩
theorem szMachine (v : Value) (x : Machine) (left : Int) (w : World) (h : Rv w v x) (hup : left ≤ 1048576) (hlo : 0 ≤ left) :
  Calls Tryz.prog 31 #[v, .int .i64 left] w fun e w' => (∃ r, e = .returned (.int .i64 r) ∧ -1 ≤ r ∧ r ≤ left ∧ (0 ≤ r → r = left - GT.tot x)) ∧ Ext w w' := by
 have ht : Hid (GT.tot x = GT.tot x.Plan + GT.tot x.Programs + GT.tot x.Cores + GT.tot x.Holds + GT.tot x.Tick) := zh rfl
 have z_Tick : GT.tot x.Tick = 0 := rfl
 obtain ⟨a0, c0, a1, c1, a2, c2, a3, c3, a4, c4, a5, c5, rfl, r6, h0, l0, h1, l1, h2, l2, h3, l3, h4, l4, h5, l5⟩ := h.openMachine
 clear h
 have E0 := zh ((Ext.refl w).alloc (.cells #[.slice a0 x.Plan.Parts.length c0, .slice a1 x.Plan.Channels.length c1, .slice a2 x.Plan.Slots.length c2, .slice a3 x.Programs.length c3, .slice a4 x.Cores.length c4, .slice a5 x.Holds.length c5, .int .i64 x.Tick] 31))
 have X0 := zh (Ext.refl (w.alloc (.cells #[.slice a0 x.Plan.Parts.length c0, .slice a1 x.Plan.Channels.length c1, .slice a2 x.Plan.Slots.length c2, .slice a3 x.Programs.length c3, .slice a4 x.Cores.length c4, .slice a5 x.Holds.length c5, .int .i64 x.Tick] 31)))
 go_enter Tryz.func31, Tryz.ntmps31
 go_wp2_with fail
 refine (szSetup _ _ _ _ (Rv.mkSetup (h0.out.ext E0.out) (h1.out.ext E0.out) (h2.out.ext E0.out)) (by omega) (by omega)).mono ?_
 rintro e w1 ⟨⟨s0, rfl, n0, u0, t0⟩, he⟩
 have R0 := zh t0
 have E1 := zh (E0.out.tr he)
 have X1 := zh (X0.out.tr he)
 obtain ⟨hcb0, hfb0⟩ := bcell X1.out
 clear t0 he
 by_cases g0 : s0 < 0
 ·go_wp2
  go_ret
  exact ⟨⟨-1, rfl, by omega, by omega, by omega⟩, E1.out⟩
 ·skip
  go_wp2_with fail
  refine (szOrderSS _ _ _ _ (h3.out.ext E1.out) (by omega) (by omega)).mono ?_
  rintro e w2 ⟨⟨s1, rfl, n1, u1, t1⟩, he⟩
  have R1 := zh t1
  have E2 := zh (E1.out.tr he)
  have X2 := zh (X1.out.tr he)
  clear hcb0 hfb0
  obtain ⟨hcb1, hfb1⟩ := bcell X2.out
  clear t1 he
  by_cases g1 : s1 < 0
  ·go_wp2
   go_ret
   exact ⟨⟨-1, rfl, by omega, by omega, by omega⟩, E2.out⟩
  ·skip
   go_wp2_with fail
   refine (szCoreS _ _ _ _ (h4.out.ext E2.out) (by omega) (by omega)).mono ?_
   rintro e w3 ⟨⟨s2, rfl, n2, u2, t2⟩, he⟩
   have R2 := zh t2
   have E3 := zh (E2.out.tr he)
   have X3 := zh (X2.out.tr he)
   clear hcb1 hfb1
   obtain ⟨hcb2, hfb2⟩ := bcell X3.out
   clear t2 he
   by_cases g2 : s2 < 0
   ·go_wp2
    go_ret
    exact ⟨⟨-1, rfl, by omega, by omega, by omega⟩, E3.out⟩
   ·skip
    go_wp2_with fail
    refine (szHoldS _ _ _ _ (h5.out.ext E3.out) (by omega) (by omega)).mono ?_
    rintro e w4 ⟨⟨s3, rfl, n3, u3, t3⟩, he⟩
    have R3 := zh t3
    have E4 := zh (E3.out.tr he)
    have X4 := zh (X3.out.tr he)
    clear hcb2 hfb2
    obtain ⟨hcb3, hfb3⟩ := bcell X4.out
    clear t3 he
    by_cases g3 : s3 < 0
    ·go_wp2
     go_ret
     exact ⟨⟨-1, rfl, by omega, by omega, by omega⟩, E4.out⟩
    ·go_wp2
     go_ret
     exact ⟨⟨_, rfl, by omega, by omega, fun _ => by have q0 := R0.out (by omega); have q1 := R1.out (by omega); have q2 := R2.out (by omega); have q3 := R3.out (by omega); have q := ht.out; omega⟩, E4.out⟩
theorem szWatch (v : Value) (x : Watch) (left : Int) (w : World) (h : Rv w v x) (hup : left ≤ 1048576) (hlo : 0 ≤ left) :
  Calls Tryz.prog 8 #[v, .int .i64 left] w fun e w' => (∃ r, e = .returned (.int .i64 r) ∧ -1 ≤ r ∧ r ≤ left ∧ (0 ≤ r → r = left - GT.tot x)) ∧ Ext w w' := by
 have ht : Hid (GT.tot x = GT.tot x.Box + GT.tot x.States) := zh rfl
 obtain ⟨a0, c0, a1, c1, a2, c2, a3, c3, a4, c4, a5, c5, a7, c7, rfl, r6, h0, l0, h1, l1, h2, l2, h3, l3, h4, l4, h5, l5, h7, l7⟩ := h.openWatch
 clear h
 have E0 := zh ((Ext.refl w).alloc (.cells #[.slice a0 x.Box.Plan.Parts.length c0, .slice a1 x.Box.Plan.Channels.length c1, .slice a2 x.Box.Plan.Slots.length c2, .slice a3 x.Box.Programs.length c3, .slice a4 x.Box.Cores.length c4, .slice a5 x.Box.Holds.length c5, .int .i64 x.Box.Tick, .slice a7 x.States.length c7] 34))
 have X0 := zh (Ext.refl (w.alloc (.cells #[.slice a0 x.Box.Plan.Parts.length c0, .slice a1 x.Box.Plan.Channels.length c1, .slice a2 x.Box.Plan.Slots.length c2, .slice a3 x.Box.Programs.length c3, .slice a4 x.Box.Cores.length c4, .slice a5 x.Box.Holds.length c5, .int .i64 x.Box.Tick, .slice a7 x.States.length c7] 34)))
 go_enter Tryz.func8, Tryz.ntmps8
 go_wp2_with fail
 refine (szMachine _ _ _ _ (Rv.mkMachine (h0.out.ext E0.out) (h1.out.ext E0.out) (h2.out.ext E0.out) (h3.out.ext E0.out) (h4.out.ext E0.out) (h5.out.ext E0.out) r6) (by omega) (by omega)).mono ?_
 rintro e w1 ⟨⟨s0, rfl, n0, u0, t0⟩, he⟩
 have R0 := zh t0
 have E1 := zh (E0.out.tr he)
 have X1 := zh (X0.out.tr he)
 obtain ⟨hcb0, hfb0⟩ := bcell X1.out
 clear t0 he
 by_cases g0 : s0 < 0
 ·go_wp2
  go_ret
  exact ⟨⟨-1, rfl, by omega, by omega, by omega⟩, E1.out⟩
 ·skip
  go_wp2_with fail
  refine (szHealthS _ _ _ _ (h7.out.ext E1.out) (by omega) (by omega)).mono ?_
  rintro e w2 ⟨⟨s1, rfl, n1, u1, t1⟩, he⟩
  have R1 := zh t1
  have E2 := zh (E1.out.tr he)
  have X2 := zh (X1.out.tr he)
  clear hcb0 hfb0
  obtain ⟨hcb1, hfb1⟩ := bcell X2.out
  clear t1 he
  by_cases g1 : s1 < 0
  ·go_wp2
   go_ret
   exact ⟨⟨-1, rfl, by omega, by omega, by omega⟩, E2.out⟩
  ·go_wp2
   go_ret
   exact ⟨⟨_, rfl, by omega, by omega, fun _ => by have q0 := R0.out (by omega); have q1 := R1.out (by omega); have q := ht.out; omega⟩, E2.out⟩
end Sk
