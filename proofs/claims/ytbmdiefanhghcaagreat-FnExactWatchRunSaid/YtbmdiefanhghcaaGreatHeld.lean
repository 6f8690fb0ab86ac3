/- Contracts of functions of the given program, each under the condition that it states. -/
import Derived.Test.YtbmdiefanhghcaaGreatChecked
import Derived.Test.YtbmdiefanhghcaaGreatFoc
namespace Sk
open Go Go.Proofs Go.RowKit
set_option maxHeartbeats 400000
set_option maxRecDepth 100000
set_option linter.unusedVariables false
set_option linter.unusedSimpArgs false
theorem heldIntS (v : Value) (xs : List Int) (k : Int) (w : World) (h : Rs w v xs) (hmk : GT.mkE xs k = xs) (hk0 : 0 ≤ k) (hk1 : k + (GT.ct xs : Nat) ≤ 1000000000000) :
  Calls Tryz.prog 159 #[v, .int .i64 k] w fun e w' => e = .returned (.int .i64 (k + (GT.ct xs : Nat))) ∧ w = w' := by
 obtain ⟨a, c, rfl, hl⟩ := h.form
 have H := zh h
 have HM := zh hmk
 clear h hmk
 go_enter Tryz.func159, Tryz.ntmps159
 go_wp2
 go_loop [1, 5] (fun kk i => ∃ (j : Nat) (r : Int), j ≤ xs.length ∧ i = .int .i64 j ∧ kk = .int .i64 r ∧ Hid (r = k + (ctK xs j : Nat))) (fun _ i => xs.length - (intOf i).toNat)
 case atStart => exact ⟨0, k, Nat.zero_le _, by go_num, by go_num, zh (by simp [ctK_zero])⟩
 case round =>
  obtain ⟨j, r, hj, rfl, rfl, hr⟩ := hrel
  by_cases hlt : j < xs.length
  ·obtain ⟨b, o, x, rfl, _, hx, hd0, g0⟩ := H.out.atInt j hlt
   have hm := mk_at HM.out hx.out
   have hct := ctK_at hx.out
   have hr2 := hr.out
   have hcx : GT.ct x = 1 := rfl
   have q0 : x = k + (ctK xs j : Nat) := hm.symm
   clear hm
   go_wp2
   go_round
   case rel => exact ⟨j + 1, _, by omega, by go_num, rfl, zh (by have := ctK_succ hx.out; omega)⟩
   case measure => simp [intOf]; omega
  ·obtain rfl : j = xs.length := by omega
   have hr2 := hr.out
   rw [ctK_all] at hr2
   go_wp2
   go_ret
   exact ⟨rfl, rfl⟩
theorem heldWindowS (v : Value) (xs : List Window) (k : Int) (w : World) (h : Rs w v xs) (hmk : GT.mkE xs k = xs) (hk0 : 0 ≤ k) (hk1 : k + (GT.ct xs : Nat) ≤ 1000000000000) :
  Calls Tryz.prog 168 #[v, .int .i64 k] w fun e w' => e = .returned (.int .i64 (k + (GT.ct xs : Nat))) ∧ w = w' := by
 obtain ⟨a, c, rfl, hl⟩ := h.form
 have H := zh h
 have HM := zh hmk
 clear h hmk
 go_enter Tryz.func168, Tryz.ntmps168
 go_wp2
 go_loop [1, 5] (fun kk i => ∃ (j : Nat) (r : Int), j ≤ xs.length ∧ i = .int .i64 j ∧ kk = .int .i64 r ∧ Hid (r = k + (ctK xs j : Nat))) (fun _ i => xs.length - (intOf i).toNat)
 case atStart => exact ⟨0, k, Nat.zero_le _, by go_num, by go_num, zh (by simp [ctK_zero])⟩
 case round =>
  obtain ⟨j, r, hj, rfl, rfl, hr⟩ := hrel
  by_cases hlt : j < xs.length
  ·obtain ⟨b, o, x, rfl, _, hx, hd0, hd1, hd2, g0, g1, _⟩ := H.out.atWindow j hlt
   have hm := mk_at HM.out hx.out
   have hct := ctK_at hx.out
   have hr2 := hr.out
   have hcx : GT.ct x = GT.ct x.Base + GT.ct x.Size + GT.ct x.Write := by rfl
   have hc_0 : GT.ct x.Base = 1 := rfl
   have hc_1 : GT.ct x.Size = 1 := rfl
   have hc_2 : GT.ct x.Write = 1 := rfl
   have q0 : x.Base = k + (ctK xs j : Nat) := (congrArg (fun z : Window => z.Base) hm).symm
   have q1 : x.Size = k + (ctK xs j : Nat) + 1 := (congrArg (fun z : Window => z.Size) hm).symm
   have q2 : x.Write = ((k + (ctK xs j : Nat) + 1 + 1) % 3 == 0) := (congrArg (fun z : Window => z.Write) hm).symm
   clear hm
   rw [q2] at hd2
   clear q2
   go_wp2
   go_round
   case rel => exact ⟨j + 1, _, by omega, by go_num, rfl, zh (by have := ctK_succ hx.out; omega)⟩
   case measure => simp [intOf]; omega
  ·obtain rfl : j = xs.length := by omega
   have hr2 := hr.out
   rw [ctK_all] at hr2
   go_wp2
   go_ret
   exact ⟨rfl, rfl⟩
theorem heldChannelS (v : Value) (xs : List Channel) (k : Int) (w : World) (h : Rs w v xs) (hmk : GT.mkE xs k = xs) (hk0 : 0 ≤ k) (hk1 : k + (GT.ct xs : Nat) ≤ 1000000000000) :
  Calls Tryz.prog 115 #[v, .int .i64 k] w fun e w' => e = .returned (.int .i64 (k + (GT.ct xs : Nat))) ∧ w = w' := by
 obtain ⟨a, c, rfl, hl⟩ := h.form
 have H := zh h
 have HM := zh hmk
 clear h hmk
 go_enter Tryz.func115, Tryz.ntmps115
 go_wp2
 go_loop [1, 5] (fun kk i => ∃ (j : Nat) (r : Int), j ≤ xs.length ∧ i = .int .i64 j ∧ kk = .int .i64 r ∧ Hid (r = k + (ctK xs j : Nat))) (fun _ i => xs.length - (intOf i).toNat)
 case atStart => exact ⟨0, k, Nat.zero_le _, by go_num, by go_num, zh (by simp [ctK_zero])⟩
 case round =>
  obtain ⟨j, r, hj, rfl, rfl, hr⟩ := hrel
  by_cases hlt : j < xs.length
  ·obtain ⟨b, o, x, rfl, _, hx, hd0, hd1, hd2, hd3, g0, g1, g2, g3, _⟩ := H.out.atChannel j hlt
   have hm := mk_at HM.out hx.out
   have hct := ctK_at hx.out
   have hr2 := hr.out
   have hcx : GT.ct x = GT.ct x.Kind + GT.ct x.From + GT.ct x.To + GT.ct x.Size := by rfl
   have hc_0 : GT.ct x.Kind = 1 := rfl
   have hc_1 : GT.ct x.From = 1 := rfl
   have hc_2 : GT.ct x.To = 1 := rfl
   have hc_3 : GT.ct x.Size = 1 := rfl
   have q0 : x.Kind = k + (ctK xs j : Nat) := (congrArg (fun z : Channel => z.Kind) hm).symm
   have q1 : x.From = k + (ctK xs j : Nat) + 1 := (congrArg (fun z : Channel => z.From) hm).symm
   have q2 : x.To = k + (ctK xs j : Nat) + 1 + 1 := (congrArg (fun z : Channel => z.To) hm).symm
   have q3 : x.Size = k + (ctK xs j : Nat) + 1 + 1 + 1 := (congrArg (fun z : Channel => z.Size) hm).symm
   clear hm
   go_wp2
   go_round
   case rel => exact ⟨j + 1, _, by omega, by go_num, rfl, zh (by have := ctK_succ hx.out; omega)⟩
   case measure => simp [intOf]; omega
  ·obtain rfl : j = xs.length := by omega
   have hr2 := hr.out
   rw [ctK_all] at hr2
   go_wp2
   go_ret
   exact ⟨rfl, rfl⟩
theorem heldSlotS (v : Value) (xs : List Slot) (k : Int) (w : World) (h : Rs w v xs) (hmk : GT.mkE xs k = xs) (hk0 : 0 ≤ k) (hk1 : k + (GT.ct xs : Nat) ≤ 1000000000000) :
  Calls Tryz.prog 116 #[v, .int .i64 k] w fun e w' => e = .returned (.int .i64 (k + (GT.ct xs : Nat))) ∧ w = w' := by
 obtain ⟨a, c, rfl, hl⟩ := h.form
 have H := zh h
 have HM := zh hmk
 clear h hmk
 go_enter Tryz.func116, Tryz.ntmps116
 go_wp2
 go_loop [1, 5] (fun kk i => ∃ (j : Nat) (r : Int), j ≤ xs.length ∧ i = .int .i64 j ∧ kk = .int .i64 r ∧ Hid (r = k + (ctK xs j : Nat))) (fun _ i => xs.length - (intOf i).toNat)
 case atStart => exact ⟨0, k, Nat.zero_le _, by go_num, by go_num, zh (by simp [ctK_zero])⟩
 case round =>
  obtain ⟨j, r, hj, rfl, rfl, hr⟩ := hrel
  by_cases hlt : j < xs.length
  ·obtain ⟨b, o, x, rfl, _, hx, hd0, hd1, g0, g1, _⟩ := H.out.atSlot j hlt
   have hm := mk_at HM.out hx.out
   have hct := ctK_at hx.out
   have hr2 := hr.out
   have hcx : GT.ct x = GT.ct x.Who + GT.ct x.Ticks := by rfl
   have hc_0 : GT.ct x.Who = 1 := rfl
   have hc_1 : GT.ct x.Ticks = 1 := rfl
   have q0 : x.Who = k + (ctK xs j : Nat) := (congrArg (fun z : Slot => z.Who) hm).symm
   have q1 : x.Ticks = k + (ctK xs j : Nat) + 1 := (congrArg (fun z : Slot => z.Ticks) hm).symm
   clear hm
   go_wp2
   go_round
   case rel => exact ⟨j + 1, _, by omega, by go_num, rfl, zh (by have := ctK_succ hx.out; omega)⟩
   case measure => simp [intOf]; omega
  ·obtain rfl : j = xs.length := by omega
   have hr2 := hr.out
   rw [ctK_all] at hr2
   go_wp2
   go_ret
   exact ⟨rfl, rfl⟩
theorem heldOrderS (v : Value) (xs : List Order) (k : Int) (w : World) (h : Rs w v xs) (hmk : GT.mkE xs k = xs) (hk0 : 0 ≤ k) (hk1 : k + (GT.ct xs : Nat) ≤ 1000000000000) :
  Calls Tryz.prog 158 #[v, .int .i64 k] w fun e w' => e = .returned (.int .i64 (k + (GT.ct xs : Nat))) ∧ w = w' := by
 obtain ⟨a, c, rfl, hl⟩ := h.form
 have H := zh h
 have HM := zh hmk
 clear h hmk
 go_enter Tryz.func158, Tryz.ntmps158
 go_wp2
 go_loop [1, 5] (fun kk i => ∃ (j : Nat) (r : Int), j ≤ xs.length ∧ i = .int .i64 j ∧ kk = .int .i64 r ∧ Hid (r = k + (ctK xs j : Nat))) (fun _ i => xs.length - (intOf i).toNat)
 case atStart => exact ⟨0, k, Nat.zero_le _, by go_num, by go_num, zh (by simp [ctK_zero])⟩
 case round =>
  obtain ⟨j, r, hj, rfl, rfl, hr⟩ := hrel
  by_cases hlt : j < xs.length
  ·obtain ⟨b, o, x, rfl, _, hx, hd0, hd1, hd2, g0, g1, g2, _⟩ := H.out.atOrder j hlt
   have hm := mk_at HM.out hx.out
   have hct := ctK_at hx.out
   have hr2 := hr.out
   have hcx : GT.ct x = GT.ct x.Op + GT.ct x.A + GT.ct x.B := by rfl
   have hc_0 : GT.ct x.Op = 1 := rfl
   have hc_1 : GT.ct x.A = 1 := rfl
   have hc_2 : GT.ct x.B = 1 := rfl
   have q0 : x.Op = k + (ctK xs j : Nat) := (congrArg (fun z : Order => z.Op) hm).symm
   have q1 : x.A = k + (ctK xs j : Nat) + 1 := (congrArg (fun z : Order => z.A) hm).symm
   have q2 : x.B = k + (ctK xs j : Nat) + 1 + 1 := (congrArg (fun z : Order => z.B) hm).symm
   clear hm
   go_wp2
   go_round
   case rel => exact ⟨j + 1, _, by omega, by go_num, rfl, zh (by have := ctK_succ hx.out; omega)⟩
   case measure => simp [intOf]; omega
  ·obtain rfl : j = xs.length := by omega
   have hr2 := hr.out
   rw [ctK_all] at hr2
   go_wp2
   go_ret
   exact ⟨rfl, rfl⟩
theorem heldHealthS (v : Value) (xs : List Health) (k : Int) (w : World) (h : Rs w v xs) (hmk : GT.mkE xs k = xs) (hk0 : 0 ≤ k) (hk1 : k + (GT.ct xs : Nat) ≤ 1000000000000) :
  Calls Tryz.prog 45 #[v, .int .i64 k] w fun e w' => e = .returned (.int .i64 (k + (GT.ct xs : Nat))) ∧ w = w' := by
 obtain ⟨a, c, rfl, hl⟩ := h.form
 have H := zh h
 have HM := zh hmk
 clear h hmk
 go_enter Tryz.func45, Tryz.ntmps45
 go_wp2
 go_loop [1, 5] (fun kk i => ∃ (j : Nat) (r : Int), j ≤ xs.length ∧ i = .int .i64 j ∧ kk = .int .i64 r ∧ Hid (r = k + (ctK xs j : Nat))) (fun _ i => xs.length - (intOf i).toNat)
 case atStart => exact ⟨0, k, Nat.zero_le _, by go_num, by go_num, zh (by simp [ctK_zero])⟩
 case round =>
  obtain ⟨j, r, hj, rfl, rfl, hr⟩ := hrel
  by_cases hlt : j < xs.length
  ·obtain ⟨b, o, x, rfl, _, hx, hd0, hd1, g1, _⟩ := H.out.atHealth j hlt
   have hm := mk_at HM.out hx.out
   have hct := ctK_at hx.out
   have hr2 := hr.out
   have hcx : GT.ct x = GT.ct x.Frozen + GT.ct x.Restarts := by rfl
   have hc_0 : GT.ct x.Frozen = 1 := rfl
   have hc_1 : GT.ct x.Restarts = 1 := rfl
   have q0 : x.Frozen = ((k + (ctK xs j : Nat)) % 3 == 0) := (congrArg (fun z : Health => z.Frozen) hm).symm
   have q1 : x.Restarts = k + (ctK xs j : Nat) + 1 := (congrArg (fun z : Health => z.Restarts) hm).symm
   clear hm
   rw [q0] at hd0
   clear q0
   go_wp2
   go_round
   case rel => exact ⟨j + 1, _, by omega, by go_num, rfl, zh (by have := ctK_succ hx.out; omega)⟩
   case measure => simp [intOf]; omega
  ·obtain rfl : j = xs.length := by omega
   have hr2 := hr.out
   rw [ctK_all] at hr2
   go_wp2
   go_ret
   exact ⟨rfl, rfl⟩
theorem heldOrderSS (v : Value) (xs : List (List Order)) (k : Int) (w : World) (h : Rs w v xs) (hmk : GT.mkE xs k = xs) (hk0 : 0 ≤ k) (hk1 : k + (GT.ct xs : Nat) ≤ 1000000000000) :
  Calls Tryz.prog 95 #[v, .int .i64 k] w fun e w' => e = .returned (.int .i64 (k + (GT.ct xs : Nat))) ∧ w = w' := by
 obtain ⟨a, c, rfl, hl⟩ := h.form
 have H := zh h
 have HM := zh hmk
 clear h hmk
 go_enter Tryz.func95, Tryz.ntmps95
 go_wp2
 go_loop [1, 5] (fun kk i => ∃ (j : Nat) (r : Int), j ≤ xs.length ∧ i = .int .i64 j ∧ kk = .int .i64 r ∧ Hid (r = k + (ctK xs j : Nat))) (fun _ i => xs.length - (intOf i).toNat)
 case atStart => exact ⟨0, k, Nat.zero_le _, by go_num, by go_num, zh (by simp [ctK_zero])⟩
 case round =>
  obtain ⟨j, r, hj, rfl, rfl, hr⟩ := hrel
  by_cases hlt : j < xs.length
  ·obtain ⟨b, o, x, a0, c0, rfl, _, hx, hd0, h0, l0⟩ := H.out.atList j hlt
   have hm := mk_at HM.out hx.out
   have hct := ctK_at hx.out
   have hr2 := hr.out
   have q0 : Hid (GT.mkE x (k + (ctK xs j : Nat)) = x) := zh (hm)
   clear hm
   go_wp2_with fail
   refine (heldOrderS _ _ _ _ h0.out q0.out (by omega) (by omega)).mono ?_
   rintro e w1 ⟨rfl, rfl⟩
   go_wp2
   go_round
   case rel => exact ⟨j + 1, _, by omega, by go_num, rfl, zh (by have := ctK_succ hx.out; omega)⟩
   case measure => simp [intOf]; omega
  ·obtain rfl : j = xs.length := by omega
   have hr2 := hr.out
   rw [ctK_all] at hr2
   go_wp2
   go_ret
   exact ⟨rfl, rfl⟩
theorem heldPartS (v : Value) (xs : List Part) (k : Int) (w : World) (h : Rs w v xs) (hmk : GT.mkE xs k = xs) (hk0 : 0 ≤ k) (hk1 : k + (GT.ct xs : Nat) ≤ 1000000000000) :
  Calls Tryz.prog 114 #[v, .int .i64 k] w fun e w' => e = .returned (.int .i64 (k + (GT.ct xs : Nat))) ∧ w = w' := by
 obtain ⟨a, c, rfl, hl⟩ := h.form
 have H := zh h
 have HM := zh hmk
 clear h hmk
 go_enter Tryz.func114, Tryz.ntmps114
 go_wp2
 go_loop [1, 5] (fun kk i => ∃ (j : Nat) (r : Int), j ≤ xs.length ∧ i = .int .i64 j ∧ kk = .int .i64 r ∧ Hid (r = k + (ctK xs j : Nat))) (fun _ i => xs.length - (intOf i).toNat)
 case atStart => exact ⟨0, k, Nat.zero_le _, by go_num, by go_num, zh (by simp [ctK_zero])⟩
 case round =>
  obtain ⟨j, r, hj, rfl, rfl, hr⟩ := hrel
  by_cases hlt : j < xs.length
  ·obtain ⟨b, o, x, a0, c0, rfl, _, hx, hd0, hd1, g1, h0, l0, _⟩ := H.out.atPart j hlt
   have hm := mk_at HM.out hx.out
   have hct := ctK_at hx.out
   have hr2 := hr.out
   have hcx : GT.ct x = GT.ct x.Windows + GT.ct x.Cells := by rfl
   have hc_1 : GT.ct x.Cells = 1 := rfl
   have q0 : Hid (GT.mkE x.Windows (k + (ctK xs j : Nat)) = x.Windows) := zh (congrArg (fun z : Part => z.Windows) hm)
   have q1 : x.Cells = k + (ctK xs j : Nat) + (GT.ct x.Windows : Nat) := (congrArg (fun z : Part => z.Cells) hm).symm
   clear hm
   go_wp2_with fail
   refine (heldWindowS _ _ _ _ h0.out q0.out (by omega) (by omega)).mono ?_
   rintro e w1 ⟨rfl, rfl⟩
   go_wp2
   go_round
   case rel => exact ⟨j + 1, _, by omega, by go_num, rfl, zh (by have := ctK_succ hx.out; omega)⟩
   case measure => simp [intOf]; omega
  ·obtain rfl : j = xs.length := by omega
   have hr2 := hr.out
   rw [ctK_all] at hr2
   go_wp2
   go_ret
   exact ⟨rfl, rfl⟩
theorem heldCoreS (v : Value) (xs : List Core) (k : Int) (w : World) (h : Rs w v xs) (hmk : GT.mkE xs k = xs) (hk0 : 0 ≤ k) (hk1 : k + (GT.ct xs : Nat) ≤ 1000000000000) :
  Calls Tryz.prog 96 #[v, .int .i64 k] w fun e w' => e = .returned (.int .i64 (k + (GT.ct xs : Nat))) ∧ w = w' := by
 obtain ⟨a, c, rfl, hl⟩ := h.form
 have H := zh h
 have HM := zh hmk
 clear h hmk
 go_enter Tryz.func96, Tryz.ntmps96
 go_wp2
 go_loop [1, 5] (fun kk i => ∃ (j : Nat) (r : Int), j ≤ xs.length ∧ i = .int .i64 j ∧ kk = .int .i64 r ∧ Hid (r = k + (ctK xs j : Nat))) (fun _ i => xs.length - (intOf i).toNat)
 case atStart => exact ⟨0, k, Nat.zero_le _, by go_num, by go_num, zh (by simp [ctK_zero])⟩
 case round =>
  obtain ⟨j, r, hj, rfl, rfl, hr⟩ := hrel
  by_cases hlt : j < xs.length
  ·obtain ⟨b, o, x, a0, c0, rfl, _, hx, hd0, hd1, hd2, g1, h0, l0, _⟩ := H.out.atCore j hlt
   have hm := mk_at HM.out hx.out
   have hct := ctK_at hx.out
   have hr2 := hr.out
   have hcx : GT.ct x = GT.ct x.Cells + GT.ct x.At + GT.ct x.Stopped := by rfl
   have hc_1 : GT.ct x.At = 1 := rfl
   have hc_2 : GT.ct x.Stopped = 1 := rfl
   have q0 : Hid (GT.mkE x.Cells (k + (ctK xs j : Nat)) = x.Cells) := zh (congrArg (fun z : Core => z.Cells) hm)
   have q1 : x.At = k + (ctK xs j : Nat) + (GT.ct x.Cells : Nat) := (congrArg (fun z : Core => z.At) hm).symm
   have q2 : x.Stopped = ((k + (ctK xs j : Nat) + (GT.ct x.Cells : Nat) + 1) % 3 == 0) := (congrArg (fun z : Core => z.Stopped) hm).symm
   clear hm
   rw [q2] at hd2
   clear q2
   go_wp2_with fail
   refine (heldIntS _ _ _ _ h0.out q0.out (by omega) (by omega)).mono ?_
   rintro e w1 ⟨rfl, rfl⟩
   go_wp2
   go_round
   case rel => exact ⟨j + 1, _, by omega, by go_num, rfl, zh (by have := ctK_succ hx.out; omega)⟩
   case measure => simp [intOf]; omega
  ·obtain rfl : j = xs.length := by omega
   have hr2 := hr.out
   rw [ctK_all] at hr2
   go_wp2
   go_ret
   exact ⟨rfl, rfl⟩
theorem heldHoldS (v : Value) (xs : List Hold) (k : Int) (w : World) (h : Rs w v xs) (hmk : GT.mkE xs k = xs) (hk0 : 0 ≤ k) (hk1 : k + (GT.ct xs : Nat) ≤ 1000000000000) :
  Calls Tryz.prog 97 #[v, .int .i64 k] w fun e w' => e = .returned (.int .i64 (k + (GT.ct xs : Nat))) ∧ w = w' := by
 obtain ⟨a, c, rfl, hl⟩ := h.form
 have H := zh h
 have HM := zh hmk
 clear h hmk
 go_enter Tryz.func97, Tryz.ntmps97
 go_wp2
 go_loop [1, 5] (fun kk i => ∃ (j : Nat) (r : Int), j ≤ xs.length ∧ i = .int .i64 j ∧ kk = .int .i64 r ∧ Hid (r = k + (ctK xs j : Nat))) (fun _ i => xs.length - (intOf i).toNat)
 case atStart => exact ⟨0, k, Nat.zero_le _, by go_num, by go_num, zh (by simp [ctK_zero])⟩
 case round =>
  obtain ⟨j, r, hj, rfl, rfl, hr⟩ := hrel
  by_cases hlt : j < xs.length
  ·obtain ⟨b, o, x, a0, c0, rfl, _, hx, hd0, h0, l0, _⟩ := H.out.atHold j hlt
   have hm := mk_at HM.out hx.out
   have hct := ctK_at hx.out
   have hr2 := hr.out
   have hcx : GT.ct x = GT.ct x.Lst := by rfl
   have q0 : Hid (GT.mkE x.Lst (k + (ctK xs j : Nat)) = x.Lst) := zh (congrArg (fun z : Hold => z.Lst) hm)
   clear hm
   go_wp2_with fail
   refine (heldIntS _ _ _ _ h0.out q0.out (by omega) (by omega)).mono ?_
   rintro e w1 ⟨rfl, rfl⟩
   go_wp2
   go_round
   case rel => exact ⟨j + 1, _, by omega, by go_num, rfl, zh (by have := ctK_succ hx.out; omega)⟩
   case measure => simp [intOf]; omega
  ·obtain rfl : j = xs.length := by omega
   have hr2 := hr.out
   rw [ctK_all] at hr2
   go_wp2
   go_ret
   exact ⟨rfl, rfl⟩
end Sk
