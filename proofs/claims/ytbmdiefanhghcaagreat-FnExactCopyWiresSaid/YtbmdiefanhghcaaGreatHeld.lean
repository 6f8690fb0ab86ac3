/- Contracts of functions of the given program, each under the condition that it states. -/
import Derived.Test.YtbmdiefanhghcaaGreatChecked
import Derived.Test.YtbmdiefanhghcaaGreatFoc
namespace Sk
open Go Go.Proofs Go.RowKit
set_option maxHeartbeats 400000
set_option maxRecDepth 100000
set_option linter.unusedVariables false
set_option linter.unusedSimpArgs false
theorem heldIntS (v : Value) (xs : List Int) (k : Int) (w : World) (h : Rs w v xs) (hmk : GT.mkE xs k = xs) (hk0 : 0 ≤ k) (hk1 : k + (GT.ct xs : Nat) ≤ 1000000000000) :
  Calls Tryz.prog 159 #[v, .int .i64 k] w fun e w' => e = .returned (.int .i64 (k + (GT.ct xs : Nat))) ∧ w = w' := by
 obtain ⟨a, c, rfl, hl⟩ := h.form
 have H := zh h
 have HM := zh hmk
 clear h hmk
 go_enter Tryz.func159, Tryz.ntmps159
 go_wp2
 go_loop [1, 5] (fun kk i => ∃ (j : Nat) (r : Int), j ≤ xs.length ∧ i = .int .i64 j ∧ kk = .int .i64 r ∧ Hid (r = k + (ctK xs j : Nat))) (fun _ i => xs.length - (intOf i).toNat)
 case atStart => exact ⟨0, k, Nat.zero_le _, by go_num, by go_num, zh (by simp [ctK_zero])⟩
 case round =>
  obtain ⟨j, r, hj, rfl, rfl, hr⟩ := hrel
  by_cases hlt : j < xs.length
  ·obtain ⟨b, o, x, rfl, _, hx, hd0, g0⟩ := H.out.atInt j hlt
   have hm := mk_at HM.out hx.out
   have hct := ctK_at hx.out
   have hr2 := hr.out
   have hcx : GT.ct x = 1 := rfl
   have q0 : x = k + (ctK xs j : Nat) := hm.symm
   clear hm
   go_wp2
   go_round
   case rel => exact ⟨j + 1, _, by omega, by go_num, rfl, zh (by have := ctK_succ hx.out; omega)⟩
   case measure => simp [intOf]; omega
  ·obtain rfl : j = xs.length := by omega
   have hr2 := hr.out
   rw [ctK_all] at hr2
   go_wp2
   go_ret
   exact ⟨rfl, rfl⟩
theorem heldWindowS (v : Value) (xs : List Window) (k : Int) (w : World) (h : Rs w v xs) (hmk : GT.mkE xs k = xs) (hk0 : 0 ≤ k) (hk1 : k + (GT.ct xs : Nat) ≤ 1000000000000) :
  Calls Tryz.prog 168 #[v, .int .i64 k] w fun e w' => e = .returned (.int .i64 (k + (GT.ct xs : Nat))) ∧ w = w' := by
 obtain ⟨a, c, rfl, hl⟩ := h.form
 have H := zh h
 have HM := zh hmk
 clear h hmk
 go_enter Tryz.func168, Tryz.ntmps168
 go_wp2
 go_loop [1, 5] (fun kk i => ∃ (j : Nat) (r : Int), j ≤ xs.length ∧ i = .int .i64 j ∧ kk = .int .i64 r ∧ Hid (r = k + (ctK xs j : Nat))) (fun _ i => xs.length - (intOf i).toNat)
 case atStart => exact ⟨0, k, Nat.zero_le _, by go_num, by go_num, zh (by simp [ctK_zero])⟩
 case round =>
  obtain ⟨j, r, hj, rfl, rfl, hr⟩ := hrel
  by_cases hlt : j < xs.length
  ·obtain ⟨b, o, x, rfl, _, hx, hd0, hd1, hd2, g0, g1, _⟩ := H.out.atWindow j hlt
   have hm := mk_at HM.out hx.out
   have hct := ctK_at hx.out
   have hr2 := hr.out
   have hcx : GT.ct x = GT.ct x.Base + GT.ct x.Size + GT.ct x.Write := by rfl
   have hc_0 : GT.ct x.Base = 1 := rfl
   have hc_1 : GT.ct x.Size = 1 := rfl
   have hc_2 : GT.ct x.Write = 1 := rfl
   have q0 : x.Base = k + (ctK xs j : Nat) := (congrArg (fun z : Window => z.Base) hm).symm
   have q1 : x.Size = k + (ctK xs j : Nat) + 1 := (congrArg (fun z : Window => z.Size) hm).symm
   have q2 : x.Write = ((k + (ctK xs j : Nat) + 1 + 1) % 3 == 0) := (congrArg (fun z : Window => z.Write) hm).symm
   clear hm
   rw [q2] at hd2
   clear q2
   go_wp2
   go_round
   case rel => exact ⟨j + 1, _, by omega, by go_num, rfl, zh (by have := ctK_succ hx.out; omega)⟩
   case measure => simp [intOf]; omega
  ·obtain rfl : j = xs.length := by omega
   have hr2 := hr.out
   rw [ctK_all] at hr2
   go_wp2
   go_ret
   exact ⟨rfl, rfl⟩
theorem heldChannelS (v : Value) (xs : List Channel) (k : Int) (w : World) (h : Rs w v xs) (hmk : GT.mkE xs k = xs) (hk0 : 0 ≤ k) (hk1 : k + (GT.ct xs : Nat) ≤ 1000000000000) :
  Calls Tryz.prog 115 #[v, .int .i64 k] w fun e w' => e = .returned (.int .i64 (k + (GT.ct xs : Nat))) ∧ w = w' := by
 obtain ⟨a, c, rfl, hl⟩ := h.form
 have H := zh h
 have HM := zh hmk
 clear h hmk
 go_enter Tryz.func115, Tryz.ntmps115
 go_wp2
 go_loop [1, 5] (fun kk i => ∃ (j : Nat) (r : Int), j ≤ xs.length ∧ i = .int .i64 j ∧ kk = .int .i64 r ∧ Hid (r = k + (ctK xs j : Nat))) (fun _ i => xs.length - (intOf i).toNat)
 case atStart => exact ⟨0, k, Nat.zero_le _, by go_num, by go_num, zh (by simp [ctK_zero])⟩
 case round =>
  obtain ⟨j, r, hj, rfl, rfl, hr⟩ := hrel
  by_cases hlt : j < xs.length
  ·obtain ⟨b, o, x, rfl, _, hx, hd0, hd1, hd2, hd3, g0, g1, g2, g3, _⟩ := H.out.atChannel j hlt
   have hm := mk_at HM.out hx.out
   have hct := ctK_at hx.out
   have hr2 := hr.out
   have hcx : GT.ct x = GT.ct x.Kind + GT.ct x.From + GT.ct x.To + GT.ct x.Size := by rfl
   have hc_0 : GT.ct x.Kind = 1 := rfl
   have hc_1 : GT.ct x.From = 1 := rfl
   have hc_2 : GT.ct x.To = 1 := rfl
   have hc_3 : GT.ct x.Size = 1 := rfl
   have q0 : x.Kind = k + (ctK xs j : Nat) := (congrArg (fun z : Channel => z.Kind) hm).symm
   have q1 : x.From = k + (ctK xs j : Nat) + 1 := (congrArg (fun z : Channel => z.From) hm).symm
   have q2 : x.To = k + (ctK xs j : Nat) + 1 + 1 := (congrArg (fun z : Channel => z.To) hm).symm
   have q3 : x.Size = k + (ctK xs j : Nat) + 1 + 1 + 1 := (congrArg (fun z : Channel => z.Size) hm).symm
   clear hm
   go_wp2
   go_round
   case rel => exact ⟨j + 1, _, by omega, by go_num, rfl, zh (by have := ctK_succ hx.out; omega)⟩
   case measure => simp [intOf]; omega
  ·obtain rfl : j = xs.length := by omega
   have hr2 := hr.out
   rw [ctK_all] at hr2
   go_wp2
   go_ret
   exact ⟨rfl, rfl⟩
theorem heldSlotS (v : Value) (xs : List Slot) (k : Int) (w : World) (h : Rs w v xs) (hmk : GT.mkE xs k = xs) (hk0 : 0 ≤ k) (hk1 : k + (GT.ct xs : Nat) ≤ 1000000000000) :
  Calls Tryz.prog 116 #[v, .int .i64 k] w fun e w' => e = .returned (.int .i64 (k + (GT.ct xs : Nat))) ∧ w = w' := by
 obtain ⟨a, c, rfl, hl⟩ := h.form
 have H := zh h
 have HM := zh hmk
 clear h hmk
 go_enter Tryz.func116, Tryz.ntmps116
 go_wp2
 go_loop [1, 5] (fun kk i => ∃ (j : Nat) (r : Int), j ≤ xs.length ∧ i = .int .i64 j ∧ kk = .int .i64 r ∧ Hid (r = k + (ctK xs j : Nat))) (fun _ i => xs.length - (intOf i).toNat)
 case atStart => exact ⟨0, k, Nat.zero_le _, by go_num, by go_num, zh (by simp [ctK_zero])⟩
 case round =>
  obtain ⟨j, r, hj, rfl, rfl, hr⟩ := hrel
  by_cases hlt : j < xs.length
  ·obtain ⟨b, o, x, rfl, _, hx, hd0, hd1, g0, g1, _⟩ := H.out.atSlot j hlt
   have hm := mk_at HM.out hx.out
   have hct := ctK_at hx.out
   have hr2 := hr.out
   have hcx : GT.ct x = GT.ct x.Who + GT.ct x.Ticks := by rfl
   have hc_0 : GT.ct x.Who = 1 := rfl
   have hc_1 : GT.ct x.Ticks = 1 := rfl
   have q0 : x.Who = k + (ctK xs j : Nat) := (congrArg (fun z : Slot => z.Who) hm).symm
   have q1 : x.Ticks = k + (ctK xs j : Nat) + 1 := (congrArg (fun z : Slot => z.Ticks) hm).symm
   clear hm
   go_wp2
   go_round
   case rel => exact ⟨j + 1, _, by omega, by go_num, rfl, zh (by have := ctK_succ hx.out; omega)⟩
   case measure => simp [intOf]; omega
  ·obtain rfl : j = xs.length := by omega
   have hr2 := hr.out
   rw [ctK_all] at hr2
   go_wp2
   go_ret
   exact ⟨rfl, rfl⟩
theorem heldOrderS (v : Value) (xs : List Order) (k : Int) (w : World) (h : Rs w v xs) (hmk : GT.mkE xs k = xs) (hk0 : 0 ≤ k) (hk1 : k + (GT.ct xs : Nat) ≤ 1000000000000) :
  Calls Tryz.prog 158 #[v, .int .i64 k] w fun e w' => e = .returned (.int .i64 (k + (GT.ct xs : Nat))) ∧ w = w' := by
 obtain ⟨a, c, rfl, hl⟩ := h.form
 have H := zh h
 have HM := zh hmk
 clear h hmk
 go_enter Tryz.func158, Tryz.ntmps158
 go_wp2
 go_loop [1, 5] (fun kk i => ∃ (j : Nat) (r : Int), j ≤ xs.length ∧ i = .int .i64 j ∧ kk = .int .i64 r ∧ Hid (r = k + (ctK xs j : Nat))) (fun _ i => xs.length - (intOf i).toNat)
 case atStart => exact ⟨0, k, Nat.zero_le _, by go_num, by go_num, zh (by simp [ctK_zero])⟩
 case round =>
  obtain ⟨j, r, hj, rfl, rfl, hr⟩ := hrel
  by_cases hlt : j < xs.length
  ·obtain ⟨b, o, x, rfl, _, hx, hd0, hd1, hd2, g0, g1, g2, _⟩ := H.out.atOrder j hlt
   have hm := mk_at HM.out hx.out
   have hct := ctK_at hx.out
   have hr2 := hr.out
   have hcx : GT.ct x = GT.ct x.Op + GT.ct x.A + GT.ct x.B := by rfl
   have hc_0 : GT.ct x.Op = 1 := rfl
   have hc_1 : GT.ct x.A = 1 := rfl
   have hc_2 : GT.ct x.B = 1 := rfl
   have q0 : x.Op = k + (ctK xs j : Nat) := (congrArg (fun z : Order => z.Op) hm).symm
   have q1 : x.A = k + (ctK xs j : Nat) + 1 := (congrArg (fun z : Order => z.A) hm).symm
   have q2 : x.B = k + (ctK xs j : Nat) + 1 + 1 := (congrArg (fun z : Order => z.B) hm).symm
   clear hm
   go_wp2
   go_round
   case rel => exact ⟨j + 1, _, by omega, by go_num, rfl, zh (by have := ctK_succ hx.out; omega)⟩
   case measure => simp [intOf]; omega
  ·obtain rfl : j = xs.length := by omega
   have hr2 := hr.out
   rw [ctK_all] at hr2
   go_wp2
   go_ret
   exact ⟨rfl, rfl⟩
theorem heldWireS (v : Value) (xs : List Wire) (k : Int) (w : World) (h : Rs w v xs) (hmk : GT.mkE xs k = xs) (hk0 : 0 ≤ k) (hk1 : k + (GT.ct xs : Nat) ≤ 1000000000000) :
  Calls Tryz.prog 62 #[v, .int .i64 k] w fun e w' => e = .returned (.int .i64 (k + (GT.ct xs : Nat))) ∧ w = w' := by
 obtain ⟨a, c, rfl, hl⟩ := h.form
 have H := zh h
 have HM := zh hmk
 clear h hmk
 go_enter Tryz.func62, Tryz.ntmps62
 go_wp2
 go_loop [1, 5] (fun kk i => ∃ (j : Nat) (r : Int), j ≤ xs.length ∧ i = .int .i64 j ∧ kk = .int .i64 r ∧ Hid (r = k + (ctK xs j : Nat))) (fun _ i => xs.length - (intOf i).toNat)
 case atStart => exact ⟨0, k, Nat.zero_le _, by go_num, by go_num, zh (by simp [ctK_zero])⟩
 case round =>
  obtain ⟨j, r, hj, rfl, rfl, hr⟩ := hrel
  by_cases hlt : j < xs.length
  ·obtain ⟨b, o, x, rfl, _, hx, hd0, hd1, hd2, hd3, hd4, hd5, g0, g1, g2, g3, g4, g5, _⟩ := H.out.atWire j hlt
   have hm := mk_at HM.out hx.out
   have hct := ctK_at hx.out
   have hr2 := hr.out
   have hcx : GT.ct x = GT.ct x.From + GT.ct x.FromPart + GT.ct x.FromCell + GT.ct x.To + GT.ct x.ToPart + GT.ct x.ToCell := by rfl
   have hc_0 : GT.ct x.From = 1 := rfl
   have hc_1 : GT.ct x.FromPart = 1 := rfl
   have hc_2 : GT.ct x.FromCell = 1 := rfl
   have hc_3 : GT.ct x.To = 1 := rfl
   have hc_4 : GT.ct x.ToPart = 1 := rfl
   have hc_5 : GT.ct x.ToCell = 1 := rfl
   have q0 : x.From = k + (ctK xs j : Nat) := (congrArg (fun z : Wire => z.From) hm).symm
   have q1 : x.FromPart = k + (ctK xs j : Nat) + 1 := (congrArg (fun z : Wire => z.FromPart) hm).symm
   have q2 : x.FromCell = k + (ctK xs j : Nat) + 1 + 1 := (congrArg (fun z : Wire => z.FromCell) hm).symm
   have q3 : x.To = k + (ctK xs j : Nat) + 1 + 1 + 1 := (congrArg (fun z : Wire => z.To) hm).symm
   have q4 : x.ToPart = k + (ctK xs j : Nat) + 1 + 1 + 1 + 1 := (congrArg (fun z : Wire => z.ToPart) hm).symm
   have q5 : x.ToCell = k + (ctK xs j : Nat) + 1 + 1 + 1 + 1 + 1 := (congrArg (fun z : Wire => z.ToCell) hm).symm
   clear hm
   go_wp2
   go_round
   case rel => exact ⟨j + 1, _, by omega, by go_num, rfl, zh (by have := ctK_succ hx.out; omega)⟩
   case measure => simp [intOf]; omega
  ·obtain rfl : j = xs.length := by omega
   have hr2 := hr.out
   rw [ctK_all] at hr2
   go_wp2
   go_ret
   exact ⟨rfl, rfl⟩
theorem heldOrderSS (v : Value) (xs : List (List Order)) (k : Int) (w : World) (h : Rs w v xs) (hmk : GT.mkE xs k = xs) (hk0 : 0 ≤ k) (hk1 : k + (GT.ct xs : Nat) ≤ 1000000000000) :
  Calls Tryz.prog 95 #[v, .int .i64 k] w fun e w' => e = .returned (.int .i64 (k + (GT.ct xs : Nat))) ∧ w = w' := by
 obtain ⟨a, c, rfl, hl⟩ := h.form
 have H := zh h
 have HM := zh hmk
 clear h hmk
 go_enter Tryz.func95, Tryz.ntmps95
 go_wp2
 go_loop [1, 5] (fun kk i => ∃ (j : Nat) (r : Int), j ≤ xs.length ∧ i = .int .i64 j ∧ kk = .int .i64 r ∧ Hid (r = k + (ctK xs j : Nat))) (fun _ i => xs.length - (intOf i).toNat)
 case atStart => exact ⟨0, k, Nat.zero_le _, by go_num, by go_num, zh (by simp [ctK_zero])⟩
 case round =>
  obtain ⟨j, r, hj, rfl, rfl, hr⟩ := hrel
  by_cases hlt : j < xs.length
  ·obtain ⟨b, o, x, a0, c0, rfl, _, hx, hd0, h0, l0⟩ := H.out.atList j hlt
   have hm := mk_at HM.out hx.out
   have hct := ctK_at hx.out
   have hr2 := hr.out
   have q0 : Hid (GT.mkE x (k + (ctK xs j : Nat)) = x) := zh (hm)
   clear hm
   go_wp2_with fail
   refine (heldOrderS _ _ _ _ h0.out q0.out (by omega) (by omega)).mono ?_
   rintro e w1 ⟨rfl, rfl⟩
   go_wp2
   go_round
   case rel => exact ⟨j + 1, _, by omega, by go_num, rfl, zh (by have := ctK_succ hx.out; omega)⟩
   case measure => simp [intOf]; omega
  ·obtain rfl : j = xs.length := by omega
   have hr2 := hr.out
   rw [ctK_all] at hr2
   go_wp2
   go_ret
   exact ⟨rfl, rfl⟩
theorem heldPartS (v : Value) (xs : List Part) (k : Int) (w : World) (h : Rs w v xs) (hmk : GT.mkE xs k = xs) (hk0 : 0 ≤ k) (hk1 : k + (GT.ct xs : Nat) ≤ 1000000000000) :
  Calls Tryz.prog 114 #[v, .int .i64 k] w fun e w' => e = .returned (.int .i64 (k + (GT.ct xs : Nat))) ∧ w = w' := by
 obtain ⟨a, c, rfl, hl⟩ := h.form
 have H := zh h
 have HM := zh hmk
 clear h hmk
 go_enter Tryz.func114, Tryz.ntmps114
 go_wp2
 go_loop [1, 5] (fun kk i => ∃ (j : Nat) (r : Int), j ≤ xs.length ∧ i = .int .i64 j ∧ kk = .int .i64 r ∧ Hid (r = k + (ctK xs j : Nat))) (fun _ i => xs.length - (intOf i).toNat)
 case atStart => exact ⟨0, k, Nat.zero_le _, by go_num, by go_num, zh (by simp [ctK_zero])⟩
 case round =>
  obtain ⟨j, r, hj, rfl, rfl, hr⟩ := hrel
  by_cases hlt : j < xs.length
  ·obtain ⟨b, o, x, a0, c0, rfl, _, hx, hd0, hd1, g1, h0, l0, _⟩ := H.out.atPart j hlt
   have hm := mk_at HM.out hx.out
   have hct := ctK_at hx.out
   have hr2 := hr.out
   have hcx : GT.ct x = GT.ct x.Windows + GT.ct x.Cells := by rfl
   have hc_1 : GT.ct x.Cells = 1 := rfl
   have q0 : Hid (GT.mkE x.Windows (k + (ctK xs j : Nat)) = x.Windows) := zh (congrArg (fun z : Part => z.Windows) hm)
   have q1 : x.Cells = k + (ctK xs j : Nat) + (GT.ct x.Windows : Nat) := (congrArg (fun z : Part => z.Cells) hm).symm
   clear hm
   go_wp2_with fail
   refine (heldWindowS _ _ _ _ h0.out q0.out (by omega) (by omega)).mono ?_
   rintro e w1 ⟨rfl, rfl⟩
   go_wp2
   go_round
   case rel => exact ⟨j + 1, _, by omega, by go_num, rfl, zh (by have := ctK_succ hx.out; omega)⟩
   case measure => simp [intOf]; omega
  ·obtain rfl : j = xs.length := by omega
   have hr2 := hr.out
   rw [ctK_all] at hr2
   go_wp2
   go_ret
   exact ⟨rfl, rfl⟩
theorem heldCoreS (v : Value) (xs : List Core) (k : Int) (w : World) (h : Rs w v xs) (hmk : GT.mkE xs k = xs) (hk0 : 0 ≤ k) (hk1 : k + (GT.ct xs : Nat) ≤ 1000000000000) :
  Calls Tryz.prog 96 #[v, .int .i64 k] w fun e w' => e = .returned (.int .i64 (k + (GT.ct xs : Nat))) ∧ w = w' := by
 obtain ⟨a, c, rfl, hl⟩ := h.form
 have H := zh h
 have HM := zh hmk
 clear h hmk
 go_enter Tryz.func96, Tryz.ntmps96
 go_wp2
 go_loop [1, 5] (fun kk i => ∃ (j : Nat) (r : Int), j ≤ xs.length ∧ i = .int .i64 j ∧ kk = .int .i64 r ∧ Hid (r = k + (ctK xs j : Nat))) (fun _ i => xs.length - (intOf i).toNat)
 case atStart => exact ⟨0, k, Nat.zero_le _, by go_num, by go_num, zh (by simp [ctK_zero])⟩
 case round =>
  obtain ⟨j, r, hj, rfl, rfl, hr⟩ := hrel
  by_cases hlt : j < xs.length
  ·obtain ⟨b, o, x, a0, c0, rfl, _, hx, hd0, hd1, hd2, g1, h0, l0, _⟩ := H.out.atCore j hlt
   have hm := mk_at HM.out hx.out
   have hct := ctK_at hx.out
   have hr2 := hr.out
   have hcx : GT.ct x = GT.ct x.Cells + GT.ct x.At + GT.ct x.Stopped := by rfl
   have hc_1 : GT.ct x.At = 1 := rfl
   have hc_2 : GT.ct x.Stopped = 1 := rfl
   have q0 : Hid (GT.mkE x.Cells (k + (ctK xs j : Nat)) = x.Cells) := zh (congrArg (fun z : Core => z.Cells) hm)
   have q1 : x.At = k + (ctK xs j : Nat) + (GT.ct x.Cells : Nat) := (congrArg (fun z : Core => z.At) hm).symm
   have q2 : x.Stopped = ((k + (ctK xs j : Nat) + (GT.ct x.Cells : Nat) + 1) % 3 == 0) := (congrArg (fun z : Core => z.Stopped) hm).symm
   clear hm
   rw [q2] at hd2
   clear q2
   go_wp2_with fail
   refine (heldIntS _ _ _ _ h0.out q0.out (by omega) (by omega)).mono ?_
   rintro e w1 ⟨rfl, rfl⟩
   go_wp2
   go_round
   case rel => exact ⟨j + 1, _, by omega, by go_num, rfl, zh (by have := ctK_succ hx.out; omega)⟩
   case measure => simp [intOf]; omega
  ·obtain rfl : j = xs.length := by omega
   have hr2 := hr.out
   rw [ctK_all] at hr2
   go_wp2
   go_ret
   exact ⟨rfl, rfl⟩
theorem heldHoldS (v : Value) (xs : List Hold) (k : Int) (w : World) (h : Rs w v xs) (hmk : GT.mkE xs k = xs) (hk0 : 0 ≤ k) (hk1 : k + (GT.ct xs : Nat) ≤ 1000000000000) :
  Calls Tryz.prog 97 #[v, .int .i64 k] w fun e w' => e = .returned (.int .i64 (k + (GT.ct xs : Nat))) ∧ w = w' := by
 obtain ⟨a, c, rfl, hl⟩ := h.form
 have H := zh h
 have HM := zh hmk
 clear h hmk
 go_enter Tryz.func97, Tryz.ntmps97
 go_wp2
 go_loop [1, 5] (fun kk i => ∃ (j : Nat) (r : Int), j ≤ xs.length ∧ i = .int .i64 j ∧ kk = .int .i64 r ∧ Hid (r = k + (ctK xs j : Nat))) (fun _ i => xs.length - (intOf i).toNat)
 case atStart => exact ⟨0, k, Nat.zero_le _, by go_num, by go_num, zh (by simp [ctK_zero])⟩
 case round =>
  obtain ⟨j, r, hj, rfl, rfl, hr⟩ := hrel
  by_cases hlt : j < xs.length
  ·obtain ⟨b, o, x, a0, c0, rfl, _, hx, hd0, h0, l0, _⟩ := H.out.atHold j hlt
   have hm := mk_at HM.out hx.out
   have hct := ctK_at hx.out
   have hr2 := hr.out
   have hcx : GT.ct x = GT.ct x.Lst := by rfl
   have q0 : Hid (GT.mkE x.Lst (k + (ctK xs j : Nat)) = x.Lst) := zh (congrArg (fun z : Hold => z.Lst) hm)
   clear hm
   go_wp2_with fail
   refine (heldIntS _ _ _ _ h0.out q0.out (by omega) (by omega)).mono ?_
   rintro e w1 ⟨rfl, rfl⟩
   go_wp2
   go_round
   case rel => exact ⟨j + 1, _, by omega, by go_num, rfl, zh (by have := ctK_succ hx.out; omega)⟩
   case measure => simp [intOf]; omega
  ·obtain rfl : j = xs.length := by omega
   have hr2 := hr.out
   rw [ctK_all] at hr2
   go_wp2
   go_ret
   exact ⟨rfl, rfl⟩
theorem heldMachineS (v : Value) (xs : List Machine) (k : Int) (w : World) (h : Rs w v xs) (hmk : GT.mkE xs k = xs) (hk0 : 0 ≤ k) (hk1 : k + (GT.ct xs : Nat) ≤ 1000000000000) :
  Calls Tryz.prog 61 #[v, .int .i64 k] w fun e w' => e = .returned (.int .i64 (k + (GT.ct xs : Nat))) ∧ w = w' := by
 obtain ⟨a, c, rfl, hl⟩ := h.form
 have H := zh h
 have HM := zh hmk
 clear h hmk
 go_enter Tryz.func61, Tryz.ntmps61
 go_wp2
 go_loop [1, 5] (fun kk i => ∃ (j : Nat) (r : Int), j ≤ xs.length ∧ i = .int .i64 j ∧ kk = .int .i64 r ∧ Hid (r = k + (ctK xs j : Nat))) (fun _ i => xs.length - (intOf i).toNat)
 case atStart => exact ⟨0, k, Nat.zero_le _, by go_num, by go_num, zh (by simp [ctK_zero])⟩
 case round =>
  obtain ⟨j, r, hj, rfl, rfl, hr⟩ := hrel
  by_cases hlt : j < xs.length
  ·obtain ⟨b, o, x, a0, c0, a1, c1, a2, c2, a3, c3, a4, c4, a5, c5, rfl, _, hx, hd0, hd1, hd2, hd3, hd4, hd5, hd6, g6, h0, l0, h1, l1, h2, l2, h3, l3, h4, l4, h5, l5, _⟩ := H.out.atMachine j hlt
   have hm := mk_at HM.out hx.out
   have hct := ctK_at hx.out
   have hr2 := hr.out
   have hcx : GT.ct x = GT.ct x.Plan.Parts + GT.ct x.Plan.Channels + GT.ct x.Plan.Slots + GT.ct x.Programs + GT.ct x.Cores + GT.ct x.Holds + GT.ct x.Tick := by show GT.ct x.Plan + _ + _ + _ + _ = _; rfl
   have hc_6 : GT.ct x.Tick = 1 := rfl
   have hpl : ((GT.ct x.Plan : Nat) : Int) = (GT.ct x.Plan.Parts : Nat) + (GT.ct x.Plan.Channels : Nat) + (GT.ct x.Plan.Slots : Nat) := by
     show ((_ + _ + _ : Nat) : Int) = _
     omega
   have hmm : ({ Plan := GT.mkE x.Plan (k + (ctK xs j : Nat)), Programs := GT.mkE x.Programs (k + (ctK xs j : Nat) + (GT.ct x.Plan : Nat)), Cores := GT.mkE x.Cores (k + (ctK xs j : Nat) + (GT.ct x.Plan : Nat) + (GT.ct x.Programs : Nat)), Holds := GT.mkE x.Holds (k + (ctK xs j : Nat) + (GT.ct x.Plan : Nat) + (GT.ct x.Programs : Nat) + (GT.ct x.Cores : Nat)), Tick := k + (ctK xs j : Nat) + (GT.ct x.Plan : Nat) + (GT.ct x.Programs : Nat) + (GT.ct x.Cores : Nat) + (GT.ct x.Holds : Nat) } : Machine) = x := hm
   rw [hpl] at hmm
   simp only [← Int.add_assoc] at hmm
   replace hm := hmm
   clear hmm
   have q0 : Hid (GT.mkE x.Plan.Parts (k + (ctK xs j : Nat)) = x.Plan.Parts) := zh (congrArg (fun z : Machine => z.Plan.Parts) hm)
   have q1 : Hid (GT.mkE x.Plan.Channels (k + (ctK xs j : Nat) + (GT.ct x.Plan.Parts : Nat)) = x.Plan.Channels) := zh (congrArg (fun z : Machine => z.Plan.Channels) hm)
   have q2 : Hid (GT.mkE x.Plan.Slots (k + (ctK xs j : Nat) + (GT.ct x.Plan.Parts : Nat) + (GT.ct x.Plan.Channels : Nat)) = x.Plan.Slots) := zh (congrArg (fun z : Machine => z.Plan.Slots) hm)
   have q3 : Hid (GT.mkE x.Programs (k + (ctK xs j : Nat) + (GT.ct x.Plan.Parts : Nat) + (GT.ct x.Plan.Channels : Nat) + (GT.ct x.Plan.Slots : Nat)) = x.Programs) := zh (congrArg (fun z : Machine => z.Programs) hm)
   have q4 : Hid (GT.mkE x.Cores (k + (ctK xs j : Nat) + (GT.ct x.Plan.Parts : Nat) + (GT.ct x.Plan.Channels : Nat) + (GT.ct x.Plan.Slots : Nat) + (GT.ct x.Programs : Nat)) = x.Cores) := zh (congrArg (fun z : Machine => z.Cores) hm)
   have q5 : Hid (GT.mkE x.Holds (k + (ctK xs j : Nat) + (GT.ct x.Plan.Parts : Nat) + (GT.ct x.Plan.Channels : Nat) + (GT.ct x.Plan.Slots : Nat) + (GT.ct x.Programs : Nat) + (GT.ct x.Cores : Nat)) = x.Holds) := zh (congrArg (fun z : Machine => z.Holds) hm)
   have q6 : x.Tick = k + (ctK xs j : Nat) + (GT.ct x.Plan.Parts : Nat) + (GT.ct x.Plan.Channels : Nat) + (GT.ct x.Plan.Slots : Nat) + (GT.ct x.Programs : Nat) + (GT.ct x.Cores : Nat) + (GT.ct x.Holds : Nat) := (congrArg (fun z : Machine => z.Tick) hm).symm
   clear hm
   go_wp2_with fail
   refine (heldPartS _ _ _ _ h0.out q0.out (by omega) (by omega)).mono ?_
   rintro e w1 ⟨rfl, rfl⟩
   go_wp2_with fail
   refine (heldChannelS _ _ _ _ h1.out q1.out (by omega) (by omega)).mono ?_
   rintro e w1 ⟨rfl, rfl⟩
   go_wp2_with fail
   refine (heldSlotS _ _ _ _ h2.out q2.out (by omega) (by omega)).mono ?_
   rintro e w1 ⟨rfl, rfl⟩
   go_wp2_with fail
   refine (heldOrderSS _ _ _ _ h3.out q3.out (by omega) (by omega)).mono ?_
   rintro e w1 ⟨rfl, rfl⟩
   go_wp2_with fail
   refine (heldCoreS _ _ _ _ h4.out q4.out (by omega) (by omega)).mono ?_
   rintro e w1 ⟨rfl, rfl⟩
   go_wp2_with fail
   refine (heldHoldS _ _ _ _ h5.out q5.out (by omega) (by omega)).mono ?_
   rintro e w1 ⟨rfl, rfl⟩
   go_wp2
   go_round
   case rel => exact ⟨j + 1, _, by omega, by go_num, rfl, zh (by have := ctK_succ hx.out; omega)⟩
   case measure => simp [intOf]; omega
  ·obtain rfl : j = xs.length := by omega
   have hr2 := hr.out
   rw [ctK_all] at hr2
   go_wp2
   go_ret
   exact ⟨rfl, rfl⟩
end Sk
