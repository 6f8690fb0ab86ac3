/- Contracts of functions of the given program, each under the condition that it states. -/
import Derived.Test.YtbmdiefanhghcaaGreatChecked
import Derived.Test.YtbmdiefanhghcaaGreatFoc
namespace Sk
open Go Go.Proofs Go.RowKit
set_option maxHeartbeats 400000
set_option maxRecDepth 100000
set_option linter.unusedVariables false
set_option linter.unusedSimpArgs false
theorem markIntS (v : Value) (xs : List Int) (k : Int) (w : World) (F : List Nat) (h : Sl w v xs F) (hnd : F.Nodup) (hfz : ∀ b ∈ F, Fz w b) (hk0 : 0 ≤ k) (hk1 : k + (GT.ct xs : Nat) ≤ 1000000000000) :
  Calls Tryz.prog 16 #[v, .int .i64 k] w fun e w' => e = .returned (.int .i64 (k + (GT.ct xs : Nat))) ∧ Sl w' v (GT.mkE xs k) F ∧ Mo F w w' := by
 obtain ⟨a, c, rfl, hl⟩ := Rs.form ⟨F, h⟩
 have H := zh h
 have HN := zh hnd
 have HZ := zh hfz
 clear h hnd hfz
 go_enter Tryz.func16, Tryz.ntmps16
 go_wp2
 go_loopw [1, 5] (fun kk i wr => ∃ (j : Nat) (r : Int), j ≤ xs.length ∧ i = .int .i64 j ∧ kk = .int .i64 r ∧ Hid (r = k + (ctK xs j : Nat)) ∧ Sl wr (.slice a xs.length c) (mkI xs k j) F ∧ Mo F w wr) (fun _ i _ => xs.length - (intOf i).toNat)
 case atStart => exact ⟨0, k, Nat.zero_le _, by go_num, by go_num, zh (by simp [ctK_zero]), H.out, Mo.refl _ _⟩
 case round =>
  obtain ⟨j, r, hj, rfl, rfl, hr, hs, hm⟩ := hrel
  clear H
  by_cases hlt : j < xs.length
  ·obtain ⟨b, o, x, F0, cs, rfl, hx, henc, hat, HF⟩ := Sl.focus (i := j) hs HN.out (by rw [mkI_length]; exact hlt)
   have hx1 : Hid (xs[j]? = some x) := zh (by rw [← mkI_at xs k]; exact hx.out)
   have hct := ctK_at hx1.out
   have hr2 := hr.out
   obtain ⟨rfl, g0, rfl⟩ := henc
   have hcx : GT.ct x = 1 := rfl
   obtain ⟨CS, TT, hbk⟩ := hm.2.2.2 b (HZ.out b HF.out.2.2.1)
   have hfz := hbk.fz
   have hd0 := hat 0 _ rfl
   have HM := zh hm
   have HS := zh hs
   have HA := zh hat
   clear hs hm hat hbk
   simp only [GT.sz, Nat.mul_one, Nat.add_zero] at hd0
   go_wp2
   go_roundw
   case rel =>
    refine ⟨j + 1, _, by omega, by go_num, rfl, zh (by have := ctK_succ hx1.out; omega), ?_, (Mo.set HM.out (by exact HF.out.2.2.1) _)⟩
    rw [← mkI_succ k hx1.out]
    have hput := HF.out.2.2.2.2 (putCells wr b (o + j * GT.sz Int) [.int .i64 (k + (ctK xs j : Nat))]) (GT.mkE x (k + (ctK xs j : Nat))) _
     (fun k' hk hne _ => putCells_heap hne) (fun o' ho => putCells_out ho) (⟨rfl, rng_mk (n := k + (ctK xs j : Nat)) (by omega) (by omega), rfl⟩)
     (putCells_in (fun i hi => ⟨_, HA.out i _ (List.getElem?_eq_getElem (by simpa using hi))⟩))
    simpa [putCells, GT.sz] using hput
   case measure => simp [intOf]; omega
  ·obtain rfl : j = xs.length := by omega
   have hr2 := hr.out
   rw [ctK_all] at hr2
   go_wp2
   go_ret
   exact ⟨ret_i hr2, by rw [← mkI_all]; exact hs, hm⟩
theorem markWindowS (v : Value) (xs : List Window) (k : Int) (w : World) (F : List Nat) (h : Sl w v xs F) (hnd : F.Nodup) (hfz : ∀ b ∈ F, Fz w b) (hk0 : 0 ≤ k) (hk1 : k + (GT.ct xs : Nat) ≤ 1000000000000) :
  Calls Tryz.prog 167 #[v, .int .i64 k] w fun e w' => e = .returned (.int .i64 (k + (GT.ct xs : Nat))) ∧ Sl w' v (GT.mkE xs k) F ∧ Mo F w w' := by
 obtain ⟨a, c, rfl, hl⟩ := Rs.form ⟨F, h⟩
 have H := zh h
 have HN := zh hnd
 have HZ := zh hfz
 clear h hnd hfz
 go_enter Tryz.func167, Tryz.ntmps167
 go_wp2
 go_loopw [1, 5] (fun kk i wr => ∃ (j : Nat) (r : Int), j ≤ xs.length ∧ i = .int .i64 j ∧ kk = .int .i64 r ∧ Hid (r = k + (ctK xs j : Nat)) ∧ Sl wr (.slice a xs.length c) (mkI xs k j) F ∧ Mo F w wr) (fun _ i _ => xs.length - (intOf i).toNat)
 case atStart => exact ⟨0, k, Nat.zero_le _, by go_num, by go_num, zh (by simp [ctK_zero]), H.out, Mo.refl _ _⟩
 case round =>
  obtain ⟨j, r, hj, rfl, rfl, hr, hs, hm⟩ := hrel
  clear H
  by_cases hlt : j < xs.length
  ·obtain ⟨b, o, x, F0, cs, rfl, hx, henc, hat, HF⟩ := Sl.focus (i := j) hs HN.out (by rw [mkI_length]; exact hlt)
   have hx1 : Hid (xs[j]? = some x) := zh (by rw [← mkI_at xs k]; exact hx.out)
   have hct := ctK_at hx1.out
   have hr2 := hr.out
   obtain ⟨rfl, g0, g1, rfl⟩ := henc
   have hcx : GT.ct x = 3 := rfl
   obtain ⟨CS, TT, hbk⟩ := hm.2.2.2 b (HZ.out b HF.out.2.2.1)
   have hfz := hbk.fz
   have hd0 := hat 0 _ rfl
   have hd1 := hat 1 _ rfl
   have hd2 := hat 2 _ rfl
   have HM := zh hm
   have HS := zh hs
   have HA := zh hat
   clear hs hm hat hbk
   simp only [GT.sz, Nat.mul_one, Nat.add_zero] at hd0 hd1 hd2
   go_wp2
   go_roundw
   case rel =>
    refine ⟨j + 1, _, by omega, by go_num, rfl, zh (by have := ctK_succ hx1.out; omega), ?_, (Mo.set (Mo.set (Mo.set HM.out (by exact HF.out.2.2.1) _) (by exact HF.out.2.2.1) _) (by exact HF.out.2.2.1) _)⟩
    rw [← mkI_succ k hx1.out]
    have hput := HF.out.2.2.2.2 (putCells wr b (o + j * GT.sz Window) [.int .i64 (k + (ctK xs j : Nat)), .int .i64 (k + (ctK xs j : Nat) + 1), .bool ((k + (ctK xs j : Nat) + 1 + 1) % 3 == 0)]) (GT.mkE x (k + (ctK xs j : Nat))) _
     (fun k' hk hne _ => putCells_heap hne) (fun o' ho => putCells_out ho) (⟨rfl, rng_mk (n := k + (ctK xs j : Nat)) (by omega) (by omega), rng_mk (n := k + (ctK xs j : Nat) + 1) (by omega) (by omega), rfl⟩)
     (putCells_in (fun i hi => ⟨_, HA.out i _ (List.getElem?_eq_getElem (by simpa using hi))⟩))
    exact hput
   case measure => simp [intOf]; omega
  ·obtain rfl : j = xs.length := by omega
   have hr2 := hr.out
   rw [ctK_all] at hr2
   go_wp2
   go_ret
   exact ⟨ret_i hr2, by rw [← mkI_all]; exact hs, hm⟩
theorem markChannelS (v : Value) (xs : List Channel) (k : Int) (w : World) (F : List Nat) (h : Sl w v xs F) (hnd : F.Nodup) (hfz : ∀ b ∈ F, Fz w b) (hk0 : 0 ≤ k) (hk1 : k + (GT.ct xs : Nat) ≤ 1000000000000) :
  Calls Tryz.prog 112 #[v, .int .i64 k] w fun e w' => e = .returned (.int .i64 (k + (GT.ct xs : Nat))) ∧ Sl w' v (GT.mkE xs k) F ∧ Mo F w w' := by
 obtain ⟨a, c, rfl, hl⟩ := Rs.form ⟨F, h⟩
 have H := zh h
 have HN := zh hnd
 have HZ := zh hfz
 clear h hnd hfz
 go_enter Tryz.func112, Tryz.ntmps112
 go_wp2
 go_loopw [1, 5] (fun kk i wr => ∃ (j : Nat) (r : Int), j ≤ xs.length ∧ i = .int .i64 j ∧ kk = .int .i64 r ∧ Hid (r = k + (ctK xs j : Nat)) ∧ Sl wr (.slice a xs.length c) (mkI xs k j) F ∧ Mo F w wr) (fun _ i _ => xs.length - (intOf i).toNat)
 case atStart => exact ⟨0, k, Nat.zero_le _, by go_num, by go_num, zh (by simp [ctK_zero]), H.out, Mo.refl _ _⟩
 case round =>
  obtain ⟨j, r, hj, rfl, rfl, hr, hs, hm⟩ := hrel
  clear H
  by_cases hlt : j < xs.length
  ·obtain ⟨b, o, x, F0, cs, rfl, hx, henc, hat, HF⟩ := Sl.focus (i := j) hs HN.out (by rw [mkI_length]; exact hlt)
   have hx1 : Hid (xs[j]? = some x) := zh (by rw [← mkI_at xs k]; exact hx.out)
   have hct := ctK_at hx1.out
   have hr2 := hr.out
   obtain ⟨rfl, g0, g1, g2, g3, rfl⟩ := henc
   have hcx : GT.ct x = 4 := rfl
   obtain ⟨CS, TT, hbk⟩ := hm.2.2.2 b (HZ.out b HF.out.2.2.1)
   have hfz := hbk.fz
   have hd0 := hat 0 _ rfl
   have hd1 := hat 1 _ rfl
   have hd2 := hat 2 _ rfl
   have hd3 := hat 3 _ rfl
   have HM := zh hm
   have HS := zh hs
   have HA := zh hat
   clear hs hm hat hbk
   simp only [GT.sz, Nat.mul_one, Nat.add_zero] at hd0 hd1 hd2 hd3
   go_wp2
   go_roundw
   case rel =>
    refine ⟨j + 1, _, by omega, by go_num, rfl, zh (by have := ctK_succ hx1.out; omega), ?_, (Mo.set (Mo.set (Mo.set (Mo.set HM.out (by exact HF.out.2.2.1) _) (by exact HF.out.2.2.1) _) (by exact HF.out.2.2.1) _) (by exact HF.out.2.2.1) _)⟩
    rw [← mkI_succ k hx1.out]
    have hput := HF.out.2.2.2.2 (putCells wr b (o + j * GT.sz Channel) [.int .i64 (k + (ctK xs j : Nat)), .int .i64 (k + (ctK xs j : Nat) + 1), .int .i64 (k + (ctK xs j : Nat) + 1 + 1), .int .i64 (k + (ctK xs j : Nat) + 1 + 1 + 1)]) (GT.mkE x (k + (ctK xs j : Nat))) _
     (fun k' hk hne _ => putCells_heap hne) (fun o' ho => putCells_out ho) (⟨rfl, rng_mk (n := k + (ctK xs j : Nat)) (by omega) (by omega), rng_mk (n := k + (ctK xs j : Nat) + 1) (by omega) (by omega), rng_mk (n := k + (ctK xs j : Nat) + 1 + 1) (by omega) (by omega), rng_mk (n := k + (ctK xs j : Nat) + 1 + 1 + 1) (by omega) (by omega), rfl⟩)
     (putCells_in (fun i hi => ⟨_, HA.out i _ (List.getElem?_eq_getElem (by simpa using hi))⟩))
    exact hput
   case measure => simp [intOf]; omega
  ·obtain rfl : j = xs.length := by omega
   have hr2 := hr.out
   rw [ctK_all] at hr2
   go_wp2
   go_ret
   exact ⟨ret_i hr2, by rw [← mkI_all]; exact hs, hm⟩
theorem markSlotS (v : Value) (xs : List Slot) (k : Int) (w : World) (F : List Nat) (h : Sl w v xs F) (hnd : F.Nodup) (hfz : ∀ b ∈ F, Fz w b) (hk0 : 0 ≤ k) (hk1 : k + (GT.ct xs : Nat) ≤ 1000000000000) :
  Calls Tryz.prog 113 #[v, .int .i64 k] w fun e w' => e = .returned (.int .i64 (k + (GT.ct xs : Nat))) ∧ Sl w' v (GT.mkE xs k) F ∧ Mo F w w' := by
 obtain ⟨a, c, rfl, hl⟩ := Rs.form ⟨F, h⟩
 have H := zh h
 have HN := zh hnd
 have HZ := zh hfz
 clear h hnd hfz
 go_enter Tryz.func113, Tryz.ntmps113
 go_wp2
 go_loopw [1, 5] (fun kk i wr => ∃ (j : Nat) (r : Int), j ≤ xs.length ∧ i = .int .i64 j ∧ kk = .int .i64 r ∧ Hid (r = k + (ctK xs j : Nat)) ∧ Sl wr (.slice a xs.length c) (mkI xs k j) F ∧ Mo F w wr) (fun _ i _ => xs.length - (intOf i).toNat)
 case atStart => exact ⟨0, k, Nat.zero_le _, by go_num, by go_num, zh (by simp [ctK_zero]), H.out, Mo.refl _ _⟩
 case round =>
  obtain ⟨j, r, hj, rfl, rfl, hr, hs, hm⟩ := hrel
  clear H
  by_cases hlt : j < xs.length
  ·obtain ⟨b, o, x, F0, cs, rfl, hx, henc, hat, HF⟩ := Sl.focus (i := j) hs HN.out (by rw [mkI_length]; exact hlt)
   have hx1 : Hid (xs[j]? = some x) := zh (by rw [← mkI_at xs k]; exact hx.out)
   have hct := ctK_at hx1.out
   have hr2 := hr.out
   obtain ⟨rfl, g0, g1, rfl⟩ := henc
   have hcx : GT.ct x = 2 := rfl
   obtain ⟨CS, TT, hbk⟩ := hm.2.2.2 b (HZ.out b HF.out.2.2.1)
   have hfz := hbk.fz
   have hd0 := hat 0 _ rfl
   have hd1 := hat 1 _ rfl
   have HM := zh hm
   have HS := zh hs
   have HA := zh hat
   clear hs hm hat hbk
   simp only [GT.sz, Nat.mul_one, Nat.add_zero] at hd0 hd1
   go_wp2
   go_roundw
   case rel =>
    refine ⟨j + 1, _, by omega, by go_num, rfl, zh (by have := ctK_succ hx1.out; omega), ?_, (Mo.set (Mo.set HM.out (by exact HF.out.2.2.1) _) (by exact HF.out.2.2.1) _)⟩
    rw [← mkI_succ k hx1.out]
    have hput := HF.out.2.2.2.2 (putCells wr b (o + j * GT.sz Slot) [.int .i64 (k + (ctK xs j : Nat)), .int .i64 (k + (ctK xs j : Nat) + 1)]) (GT.mkE x (k + (ctK xs j : Nat))) _
     (fun k' hk hne _ => putCells_heap hne) (fun o' ho => putCells_out ho) (⟨rfl, rng_mk (n := k + (ctK xs j : Nat)) (by omega) (by omega), rng_mk (n := k + (ctK xs j : Nat) + 1) (by omega) (by omega), rfl⟩)
     (putCells_in (fun i hi => ⟨_, HA.out i _ (List.getElem?_eq_getElem (by simpa using hi))⟩))
    exact hput
   case measure => simp [intOf]; omega
  ·obtain rfl : j = xs.length := by omega
   have hr2 := hr.out
   rw [ctK_all] at hr2
   go_wp2
   go_ret
   exact ⟨ret_i hr2, by rw [← mkI_all]; exact hs, hm⟩
theorem markOrderS (v : Value) (xs : List Order) (k : Int) (w : World) (F : List Nat) (h : Sl w v xs F) (hnd : F.Nodup) (hfz : ∀ b ∈ F, Fz w b) (hk0 : 0 ≤ k) (hk1 : k + (GT.ct xs : Nat) ≤ 1000000000000) :
  Calls Tryz.prog 157 #[v, .int .i64 k] w fun e w' => e = .returned (.int .i64 (k + (GT.ct xs : Nat))) ∧ Sl w' v (GT.mkE xs k) F ∧ Mo F w w' := by
 obtain ⟨a, c, rfl, hl⟩ := Rs.form ⟨F, h⟩
 have H := zh h
 have HN := zh hnd
 have HZ := zh hfz
 clear h hnd hfz
 go_enter Tryz.func157, Tryz.ntmps157
 go_wp2
 go_loopw [1, 5] (fun kk i wr => ∃ (j : Nat) (r : Int), j ≤ xs.length ∧ i = .int .i64 j ∧ kk = .int .i64 r ∧ Hid (r = k + (ctK xs j : Nat)) ∧ Sl wr (.slice a xs.length c) (mkI xs k j) F ∧ Mo F w wr) (fun _ i _ => xs.length - (intOf i).toNat)
 case atStart => exact ⟨0, k, Nat.zero_le _, by go_num, by go_num, zh (by simp [ctK_zero]), H.out, Mo.refl _ _⟩
 case round =>
  obtain ⟨j, r, hj, rfl, rfl, hr, hs, hm⟩ := hrel
  clear H
  by_cases hlt : j < xs.length
  ·obtain ⟨b, o, x, F0, cs, rfl, hx, henc, hat, HF⟩ := Sl.focus (i := j) hs HN.out (by rw [mkI_length]; exact hlt)
   have hx1 : Hid (xs[j]? = some x) := zh (by rw [← mkI_at xs k]; exact hx.out)
   have hct := ctK_at hx1.out
   have hr2 := hr.out
   obtain ⟨rfl, g0, g1, g2, rfl⟩ := henc
   have hcx : GT.ct x = 3 := rfl
   obtain ⟨CS, TT, hbk⟩ := hm.2.2.2 b (HZ.out b HF.out.2.2.1)
   have hfz := hbk.fz
   have hd0 := hat 0 _ rfl
   have hd1 := hat 1 _ rfl
   have hd2 := hat 2 _ rfl
   have HM := zh hm
   have HS := zh hs
   have HA := zh hat
   clear hs hm hat hbk
   simp only [GT.sz, Nat.mul_one, Nat.add_zero] at hd0 hd1 hd2
   go_wp2
   go_roundw
   case rel =>
    refine ⟨j + 1, _, by omega, by go_num, rfl, zh (by have := ctK_succ hx1.out; omega), ?_, (Mo.set (Mo.set (Mo.set HM.out (by exact HF.out.2.2.1) _) (by exact HF.out.2.2.1) _) (by exact HF.out.2.2.1) _)⟩
    rw [← mkI_succ k hx1.out]
    have hput := HF.out.2.2.2.2 (putCells wr b (o + j * GT.sz Order) [.int .i64 (k + (ctK xs j : Nat)), .int .i64 (k + (ctK xs j : Nat) + 1), .int .i64 (k + (ctK xs j : Nat) + 1 + 1)]) (GT.mkE x (k + (ctK xs j : Nat))) _
     (fun k' hk hne _ => putCells_heap hne) (fun o' ho => putCells_out ho) (⟨rfl, rng_mk (n := k + (ctK xs j : Nat)) (by omega) (by omega), rng_mk (n := k + (ctK xs j : Nat) + 1) (by omega) (by omega), rng_mk (n := k + (ctK xs j : Nat) + 1 + 1) (by omega) (by omega), rfl⟩)
     (putCells_in (fun i hi => ⟨_, HA.out i _ (List.getElem?_eq_getElem (by simpa using hi))⟩))
    exact hput
   case measure => simp [intOf]; omega
  ·obtain rfl : j = xs.length := by omega
   have hr2 := hr.out
   rw [ctK_all] at hr2
   go_wp2
   go_ret
   exact ⟨ret_i hr2, by rw [← mkI_all]; exact hs, hm⟩
theorem markWireS (v : Value) (xs : List Wire) (k : Int) (w : World) (F : List Nat) (h : Sl w v xs F) (hnd : F.Nodup) (hfz : ∀ b ∈ F, Fz w b) (hk0 : 0 ≤ k) (hk1 : k + (GT.ct xs : Nat) ≤ 1000000000000) :
  Calls Tryz.prog 60 #[v, .int .i64 k] w fun e w' => e = .returned (.int .i64 (k + (GT.ct xs : Nat))) ∧ Sl w' v (GT.mkE xs k) F ∧ Mo F w w' := by
 obtain ⟨a, c, rfl, hl⟩ := Rs.form ⟨F, h⟩
 have H := zh h
 have HN := zh hnd
 have HZ := zh hfz
 clear h hnd hfz
 go_enter Tryz.func60, Tryz.ntmps60
 go_wp2
 go_loopw [1, 5] (fun kk i wr => ∃ (j : Nat) (r : Int), j ≤ xs.length ∧ i = .int .i64 j ∧ kk = .int .i64 r ∧ Hid (r = k + (ctK xs j : Nat)) ∧ Sl wr (.slice a xs.length c) (mkI xs k j) F ∧ Mo F w wr) (fun _ i _ => xs.length - (intOf i).toNat)
 case atStart => exact ⟨0, k, Nat.zero_le _, by go_num, by go_num, zh (by simp [ctK_zero]), H.out, Mo.refl _ _⟩
 case round =>
  obtain ⟨j, r, hj, rfl, rfl, hr, hs, hm⟩ := hrel
  clear H
  by_cases hlt : j < xs.length
  ·obtain ⟨b, o, x, F0, cs, rfl, hx, henc, hat, HF⟩ := Sl.focus (i := j) hs HN.out (by rw [mkI_length]; exact hlt)
   have hx1 : Hid (xs[j]? = some x) := zh (by rw [← mkI_at xs k]; exact hx.out)
   have hct := ctK_at hx1.out
   have hr2 := hr.out
   obtain ⟨rfl, g0, g1, g2, g3, g4, g5, rfl⟩ := henc
   have hcx : GT.ct x = 6 := rfl
   obtain ⟨CS, TT, hbk⟩ := hm.2.2.2 b (HZ.out b HF.out.2.2.1)
   have hfz := hbk.fz
   have hd0 := hat 0 _ rfl
   have hd1 := hat 1 _ rfl
   have hd2 := hat 2 _ rfl
   have hd3 := hat 3 _ rfl
   have hd4 := hat 4 _ rfl
   have hd5 := hat 5 _ rfl
   have HM := zh hm
   have HS := zh hs
   have HA := zh hat
   clear hs hm hat hbk
   simp only [GT.sz, Nat.mul_one, Nat.add_zero] at hd0 hd1 hd2 hd3 hd4 hd5
   go_wp2
   go_roundw
   case rel =>
    refine ⟨j + 1, _, by omega, by go_num, rfl, zh (by have := ctK_succ hx1.out; omega), ?_, (Mo.set (Mo.set (Mo.set (Mo.set (Mo.set (Mo.set HM.out (by exact HF.out.2.2.1) _) (by exact HF.out.2.2.1) _) (by exact HF.out.2.2.1) _) (by exact HF.out.2.2.1) _) (by exact HF.out.2.2.1) _) (by exact HF.out.2.2.1) _)⟩
    rw [← mkI_succ k hx1.out]
    have hput := HF.out.2.2.2.2 (putCells wr b (o + j * GT.sz Wire) [.int .i64 (k + (ctK xs j : Nat)), .int .i64 (k + (ctK xs j : Nat) + 1), .int .i64 (k + (ctK xs j : Nat) + 1 + 1), .int .i64 (k + (ctK xs j : Nat) + 1 + 1 + 1), .int .i64 (k + (ctK xs j : Nat) + 1 + 1 + 1 + 1), .int .i64 (k + (ctK xs j : Nat) + 1 + 1 + 1 + 1 + 1)]) (GT.mkE x (k + (ctK xs j : Nat))) _
     (fun k' hk hne _ => putCells_heap hne) (fun o' ho => putCells_out ho) (⟨rfl, rng_mk (n := k + (ctK xs j : Nat)) (by omega) (by omega), rng_mk (n := k + (ctK xs j : Nat) + 1) (by omega) (by omega), rng_mk (n := k + (ctK xs j : Nat) + 1 + 1) (by omega) (by omega), rng_mk (n := k + (ctK xs j : Nat) + 1 + 1 + 1) (by omega) (by omega), rng_mk (n := k + (ctK xs j : Nat) + 1 + 1 + 1 + 1) (by omega) (by omega), rng_mk (n := k + (ctK xs j : Nat) + 1 + 1 + 1 + 1 + 1) (by omega) (by omega), rfl⟩)
     (putCells_in (fun i hi => ⟨_, HA.out i _ (List.getElem?_eq_getElem (by simpa using hi))⟩))
    exact hput
   case measure => simp [intOf]; omega
  ·obtain rfl : j = xs.length := by omega
   have hr2 := hr.out
   rw [ctK_all] at hr2
   go_wp2
   go_ret
   exact ⟨ret_i hr2, by rw [← mkI_all]; exact hs, hm⟩
theorem markOrderSS (v : Value) (xs : List (List Order)) (k : Int) (w : World) (F : List Nat) (h : Sl w v xs F) (hnd : F.Nodup) (hfz : ∀ b ∈ F, Fz w b) (hk0 : 0 ≤ k) (hk1 : k + (GT.ct xs : Nat) ≤ 1000000000000) :
  Calls Tryz.prog 91 #[v, .int .i64 k] w fun e w' => e = .returned (.int .i64 (k + (GT.ct xs : Nat))) ∧ Sl w' v (GT.mkE xs k) F ∧ Mo F w w' := by
 obtain ⟨a, c, rfl, hl⟩ := Rs.form ⟨F, h⟩
 have H := zh h
 have HN := zh hnd
 have HZ := zh hfz
 clear h hnd hfz
 go_enter Tryz.func91, Tryz.ntmps91
 go_wp2
 go_loopw [1, 5] (fun kk i wr => ∃ (j : Nat) (r : Int), j ≤ xs.length ∧ i = .int .i64 j ∧ kk = .int .i64 r ∧ Hid (r = k + (ctK xs j : Nat)) ∧ Sl wr (.slice a xs.length c) (mkI xs k j) F ∧ Mo F w wr) (fun _ i _ => xs.length - (intOf i).toNat)
 case atStart => exact ⟨0, k, Nat.zero_le _, by go_num, by go_num, zh (by simp [ctK_zero]), H.out, Mo.refl _ _⟩
 case round =>
  obtain ⟨j, r, hj, rfl, rfl, hr, hs, hm⟩ := hrel
  clear H
  by_cases hlt : j < xs.length
  ·obtain ⟨b, o, x, F0, cs, rfl, hx, henc, hat, HF⟩ := Sl.focus (i := j) hs HN.out (by rw [mkI_length]; exact hlt)
   have hx1 : Hid (xs[j]? = some x) := zh (by rw [← mkI_at xs k]; exact hx.out)
   have hct := ctK_at hx1.out
   have hr2 := hr.out
   obtain ⟨v0, rfl, h0⟩ := henc
   obtain ⟨a0, c0, rfl, hl0⟩ := Rs.form ⟨_, h0⟩
   have nd0 := HF.out.2.2.2.1
   have hin := HF.out.1
   have hzF := fun y hy => hm.2.2.2 y (HZ.out y (hin y hy))
   have N0 := zh (nd0)
   have Z0 : Hid (∀ y ∈ F0, Fz wr y) := zh (fun y hy => hzF y (by simp [hy]))
   have S0 := zh h0
   have nb0 : b ∉ F0 := fun hh => HF.out.2.1 (by simp [hh])
   clear nd0 hin hzF h0
   have HMF : Hid (Mo F0 wr wr) := zh (Mo.refl _ _)
   have fzb := hm.2.2.2 b (HZ.out b HF.out.2.2.1)
   obtain ⟨CS, TT, hbk⟩ := fzb
   have HBK := zh hbk
   have hfz := hbk.fz
   have HA := zh hat
   have HM := zh hm
   have hd0 := hat 0 _ rfl
   simp only [GT.sz, Nat.mul_one, Nat.add_zero] at hd0
   clear hs hm hat hbk
   go_wp2_with fail
   refine (markOrderS _ _ _ _ F0 S0.out N0.out Z0.out (by omega) (by omega)).mono ?_
   rintro e w1 ⟨rfl, hs0, hm0⟩
   replace S0 := zh hs0
   replace Z0 := zh (fun y hy => hm0.2.2.2 y (Z0.out y hy) : ∀ y ∈ F0, Fz w1 y)
   have hbb0 := hm0.2.2.1 b nb0
   have HB := zh hbb0
   replace HBK : Hid (Bk w1 b CS TT) := zh (by have h := HBK.out; unfold Bk at *; rw [hbb0]; exact h)
   replace HMF := zh (HMF.out.tr (hm0.wide (fun y hy => by simp [hy])))
   clear hfz
   have hfz := HBK.out.fz
   replace hd0 := (World.cell?_of_block (w := wr) (w' := w1) hbb0).trans hd0
   clear hs0 hm0 hbb0
   go_wp2
   go_roundw
   case rel =>
    refine ⟨j + 1, _, by omega, by go_num, rfl, zh (by have := ctK_succ hx1.out; omega), ?_, (HM.out.tr (HMF.out.wide HF.out.1))⟩
    rw [← mkI_succ k hx1.out]
    have hput := HF.out.2.2.2.2 (w1) (GT.mkE x (k + (ctK xs j : Nat))) [.slice a0 (x).length c0]
     (fun y hy hne hn => HMF.out.2.2.1 y hn) (fun o' ho => World.cell?_of_block HB.out)
     (⟨_, rfl, S0.out⟩)
     (by
      intro i u hi
      have hi2 : i < 1 := (List.getElem?_eq_some_iff.1 hi).1
      match i, hi2, hi with
      | 0, _, hi => cases hi; simpa [GT.sz] using hd0
      )
    exact hput
   case measure => simp [intOf]; omega
  ·obtain rfl : j = xs.length := by omega
   have hr2 := hr.out
   rw [ctK_all] at hr2
   go_wp2
   go_ret
   exact ⟨ret_i hr2, by rw [← mkI_all]; exact hs, hm⟩
theorem markPartS (v : Value) (xs : List Part) (k : Int) (w : World) (F : List Nat) (h : Sl w v xs F) (hnd : F.Nodup) (hfz : ∀ b ∈ F, Fz w b) (hk0 : 0 ≤ k) (hk1 : k + (GT.ct xs : Nat) ≤ 1000000000000) :
  Calls Tryz.prog 111 #[v, .int .i64 k] w fun e w' => e = .returned (.int .i64 (k + (GT.ct xs : Nat))) ∧ Sl w' v (GT.mkE xs k) F ∧ Mo F w w' := by
 obtain ⟨a, c, rfl, hl⟩ := Rs.form ⟨F, h⟩
 have H := zh h
 have HN := zh hnd
 have HZ := zh hfz
 clear h hnd hfz
 go_enter Tryz.func111, Tryz.ntmps111
 go_wp2
 go_loopw [1, 5] (fun kk i wr => ∃ (j : Nat) (r : Int), j ≤ xs.length ∧ i = .int .i64 j ∧ kk = .int .i64 r ∧ Hid (r = k + (ctK xs j : Nat)) ∧ Sl wr (.slice a xs.length c) (mkI xs k j) F ∧ Mo F w wr) (fun _ i _ => xs.length - (intOf i).toNat)
 case atStart => exact ⟨0, k, Nat.zero_le _, by go_num, by go_num, zh (by simp [ctK_zero]), H.out, Mo.refl _ _⟩
 case round =>
  obtain ⟨j, r, hj, rfl, rfl, hr, hs, hm⟩ := hrel
  clear H
  by_cases hlt : j < xs.length
  ·obtain ⟨b, o, x, F0, cs, rfl, hx, henc, hat, HF⟩ := Sl.focus (i := j) hs HN.out (by rw [mkI_length]; exact hlt)
   have hx1 : Hid (xs[j]? = some x) := zh (by rw [← mkI_at xs k]; exact hx.out)
   have hct := ctK_at hx1.out
   have hr2 := hr.out
   obtain ⟨v0, rfl, h0, g1⟩ := henc
   have hcx : GT.ct x = GT.ct x.Windows + GT.ct x.Cells := by rfl
   have hc_1 : GT.ct x.Cells = 1 := rfl
   obtain ⟨a0, c0, rfl, hl0⟩ := Rs.form ⟨_, h0⟩
   have nd0 := HF.out.2.2.2.1
   have hin := HF.out.1
   have hzF := fun y hy => hm.2.2.2 y (HZ.out y (hin y hy))
   have N0 := zh (nd0)
   have Z0 : Hid (∀ y ∈ F0, Fz wr y) := zh (fun y hy => hzF y (by simp [hy]))
   have S0 := zh h0
   have nb0 : b ∉ F0 := fun hh => HF.out.2.1 (by simp [hh])
   clear nd0 hin hzF h0
   have HMF : Hid (Mo F0 wr wr) := zh (Mo.refl _ _)
   have fzb := hm.2.2.2 b (HZ.out b HF.out.2.2.1)
   obtain ⟨CS, TT, hbk⟩ := fzb
   have HBK := zh hbk
   have hfz := hbk.fz
   have HA := zh hat
   have HM := zh hm
   have hd0 := hat 0 _ rfl
   have hd1 := hat 1 _ rfl
   simp only [GT.sz, Nat.mul_one, Nat.add_zero] at hd0 hd1
   clear hs hm hat hbk
   go_wp2_with fail
   refine (markWindowS _ _ _ _ F0 S0.out N0.out Z0.out (by omega) (by omega)).mono ?_
   rintro e w1 ⟨rfl, hs0, hm0⟩
   replace S0 := zh hs0
   replace Z0 := zh (fun y hy => hm0.2.2.2 y (Z0.out y hy) : ∀ y ∈ F0, Fz w1 y)
   have hbb0 := hm0.2.2.1 b nb0
   have HB := zh hbb0
   replace HBK : Hid (Bk w1 b CS TT) := zh (by have h := HBK.out; unfold Bk at *; rw [hbb0]; exact h)
   replace HMF := zh (HMF.out.tr (hm0.wide (fun y hy => by simp [hy])))
   clear hfz
   have hfz := HBK.out.fz
   replace hd0 := (World.cell?_of_block (w := wr) (w' := w1) hbb0).trans hd0
   replace hd1 := (World.cell?_of_block (w := wr) (w' := w1) hbb0).trans hd1
   clear hs0 hm0 hbb0
   go_wp2
   go_roundw
   case rel =>
    refine ⟨j + 1, _, by omega, by go_num, rfl, zh (by have := ctK_succ hx1.out; omega), ?_, (Mo.set (HM.out.tr (HMF.out.wide HF.out.1)) (by exact HF.out.2.2.1) _)⟩
    rw [← mkI_succ k hx1.out]
    have hput := HF.out.2.2.2.2 (putCells w1 b (o + j * GT.sz Part + 1) [.int .i64 (k + (ctK xs j : Nat) + (GT.ct x.Windows : Nat))]) (GT.mkE x (k + (ctK xs j : Nat))) [.slice a0 (x.Windows).length c0, .int .i64 (k + (ctK xs j : Nat) + (GT.ct x.Windows : Nat))]
     (fun y hy hne hn => (putCells_heap hne).trans (HMF.out.2.2.1 y hn)) (fun o' ho => (putCells_out (by simp only [GT.sz, List.length_cons, List.length_nil] at ho ⊢; omega)).trans (World.cell?_of_block HB.out))
     (⟨_, rfl, S0.out.keep (fun y hy => putCells_heap (b := b) (fun e => nb0 (e ▸ hy))), rng_mk (n := k + (ctK xs j : Nat) + (GT.ct x.Windows : Nat)) (by omega) (by omega)⟩)
     (by
      intro i u hi
      have hi2 : i < 2 := (List.getElem?_eq_some_iff.1 hi).1
      have hcells : At (putCells w1 b (o + j * GT.sz Part + 1) [.int .i64 (k + (ctK xs j : Nat) + (GT.ct x.Windows : Nat))]) b (o + j * GT.sz Part + 1) [.int .i64 (k + (ctK xs j : Nat) + (GT.ct x.Windows : Nat))] := putCells_in (by
       intro z hz
       have hz2 : z < 1 := hz
       match z, hz2 with
       | 0, _ => exact ⟨_, hd1⟩
       )
      match i, hi2, hi with
      | 0, _, hi => cases hi; exact (putCells_out (by left; omega)).trans hd0
      | 1, _, hi => cases hi; exact hcells 0 _ rfl
      )
    exact hput
   case measure => simp [intOf]; omega
  ·obtain rfl : j = xs.length := by omega
   have hr2 := hr.out
   rw [ctK_all] at hr2
   go_wp2
   go_ret
   exact ⟨ret_i hr2, by rw [← mkI_all]; exact hs, hm⟩
theorem markCoreS (v : Value) (xs : List Core) (k : Int) (w : World) (F : List Nat) (h : Sl w v xs F) (hnd : F.Nodup) (hfz : ∀ b ∈ F, Fz w b) (hk0 : 0 ≤ k) (hk1 : k + (GT.ct xs : Nat) ≤ 1000000000000) :
  Calls Tryz.prog 92 #[v, .int .i64 k] w fun e w' => e = .returned (.int .i64 (k + (GT.ct xs : Nat))) ∧ Sl w' v (GT.mkE xs k) F ∧ Mo F w w' := by
 obtain ⟨a, c, rfl, hl⟩ := Rs.form ⟨F, h⟩
 have H := zh h
 have HN := zh hnd
 have HZ := zh hfz
 clear h hnd hfz
 go_enter Tryz.func92, Tryz.ntmps92
 go_wp2
 go_loopw [1, 5] (fun kk i wr => ∃ (j : Nat) (r : Int), j ≤ xs.length ∧ i = .int .i64 j ∧ kk = .int .i64 r ∧ Hid (r = k + (ctK xs j : Nat)) ∧ Sl wr (.slice a xs.length c) (mkI xs k j) F ∧ Mo F w wr) (fun _ i _ => xs.length - (intOf i).toNat)
 case atStart => exact ⟨0, k, Nat.zero_le _, by go_num, by go_num, zh (by simp [ctK_zero]), H.out, Mo.refl _ _⟩
 case round =>
  obtain ⟨j, r, hj, rfl, rfl, hr, hs, hm⟩ := hrel
  clear H
  by_cases hlt : j < xs.length
  ·obtain ⟨b, o, x, F0, cs, rfl, hx, henc, hat, HF⟩ := Sl.focus (i := j) hs HN.out (by rw [mkI_length]; exact hlt)
   have hx1 : Hid (xs[j]? = some x) := zh (by rw [← mkI_at xs k]; exact hx.out)
   have hct := ctK_at hx1.out
   have hr2 := hr.out
   obtain ⟨v0, rfl, h0, g1⟩ := henc
   have hcx : GT.ct x = GT.ct x.Cells + GT.ct x.At + GT.ct x.Stopped := by rfl
   have hc_1 : GT.ct x.At = 1 := rfl
   have hc_2 : GT.ct x.Stopped = 1 := rfl
   obtain ⟨a0, c0, rfl, hl0⟩ := Rs.form ⟨_, h0⟩
   have nd0 := HF.out.2.2.2.1
   have hin := HF.out.1
   have hzF := fun y hy => hm.2.2.2 y (HZ.out y (hin y hy))
   have N0 := zh (nd0)
   have Z0 : Hid (∀ y ∈ F0, Fz wr y) := zh (fun y hy => hzF y (by simp [hy]))
   have S0 := zh h0
   have nb0 : b ∉ F0 := fun hh => HF.out.2.1 (by simp [hh])
   clear nd0 hin hzF h0
   have HMF : Hid (Mo F0 wr wr) := zh (Mo.refl _ _)
   have fzb := hm.2.2.2 b (HZ.out b HF.out.2.2.1)
   obtain ⟨CS, TT, hbk⟩ := fzb
   have HBK := zh hbk
   have hfz := hbk.fz
   have HA := zh hat
   have HM := zh hm
   have hd0 := hat 0 _ rfl
   have hd1 := hat 1 _ rfl
   have hd2 := hat 2 _ rfl
   simp only [GT.sz, Nat.mul_one, Nat.add_zero] at hd0 hd1 hd2
   clear hs hm hat hbk
   go_wp2_with fail
   refine (markIntS _ _ _ _ F0 S0.out N0.out Z0.out (by omega) (by omega)).mono ?_
   rintro e w1 ⟨rfl, hs0, hm0⟩
   replace S0 := zh hs0
   replace Z0 := zh (fun y hy => hm0.2.2.2 y (Z0.out y hy) : ∀ y ∈ F0, Fz w1 y)
   have hbb0 := hm0.2.2.1 b nb0
   have HB := zh hbb0
   replace HBK : Hid (Bk w1 b CS TT) := zh (by have h := HBK.out; unfold Bk at *; rw [hbb0]; exact h)
   replace HMF := zh (HMF.out.tr (hm0.wide (fun y hy => by simp [hy])))
   clear hfz
   have hfz := HBK.out.fz
   replace hd0 := (World.cell?_of_block (w := wr) (w' := w1) hbb0).trans hd0
   replace hd1 := (World.cell?_of_block (w := wr) (w' := w1) hbb0).trans hd1
   replace hd2 := (World.cell?_of_block (w := wr) (w' := w1) hbb0).trans hd2
   clear hs0 hm0 hbb0
   go_wp2
   go_roundw
   case rel =>
    refine ⟨j + 1, _, by omega, by go_num, rfl, zh (by have := ctK_succ hx1.out; omega), ?_, (Mo.set (Mo.set (HM.out.tr (HMF.out.wide HF.out.1)) (by exact HF.out.2.2.1) _) (by exact HF.out.2.2.1) _)⟩
    rw [← mkI_succ k hx1.out]
    have hput := HF.out.2.2.2.2 (putCells w1 b (o + j * GT.sz Core + 1) [.int .i64 (k + (ctK xs j : Nat) + (GT.ct x.Cells : Nat)), .bool ((k + (ctK xs j : Nat) + (GT.ct x.Cells : Nat) + 1) % 3 == 0)]) (GT.mkE x (k + (ctK xs j : Nat))) [.slice a0 (x.Cells).length c0, .int .i64 (k + (ctK xs j : Nat) + (GT.ct x.Cells : Nat)), .bool ((k + (ctK xs j : Nat) + (GT.ct x.Cells : Nat) + 1) % 3 == 0)]
     (fun y hy hne hn => (putCells_heap hne).trans (HMF.out.2.2.1 y hn)) (fun o' ho => (putCells_out (by simp only [GT.sz, List.length_cons, List.length_nil] at ho ⊢; omega)).trans (World.cell?_of_block HB.out))
     (⟨_, rfl, S0.out.keep (fun y hy => putCells_heap (b := b) (fun e => nb0 (e ▸ hy))), rng_mk (n := k + (ctK xs j : Nat) + (GT.ct x.Cells : Nat)) (by omega) (by omega)⟩)
     (by
      intro i u hi
      have hi2 : i < 3 := (List.getElem?_eq_some_iff.1 hi).1
      have hcells : At (putCells w1 b (o + j * GT.sz Core + 1) [.int .i64 (k + (ctK xs j : Nat) + (GT.ct x.Cells : Nat)), .bool ((k + (ctK xs j : Nat) + (GT.ct x.Cells : Nat) + 1) % 3 == 0)]) b (o + j * GT.sz Core + 1) [.int .i64 (k + (ctK xs j : Nat) + (GT.ct x.Cells : Nat)), .bool ((k + (ctK xs j : Nat) + (GT.ct x.Cells : Nat) + 1) % 3 == 0)] := putCells_in (by
       intro z hz
       have hz2 : z < 2 := hz
       match z, hz2 with
       | 0, _ => exact ⟨_, hd1⟩
       | 1, _ => exact ⟨_, hd2⟩
       )
      match i, hi2, hi with
      | 0, _, hi => cases hi; exact (putCells_out (by left; omega)).trans hd0
      | 1, _, hi => cases hi; exact hcells 0 _ rfl
      | 2, _, hi => cases hi; exact hcells 1 _ rfl
      )
    exact hput
   case measure => simp [intOf]; omega
  ·obtain rfl : j = xs.length := by omega
   have hr2 := hr.out
   rw [ctK_all] at hr2
   go_wp2
   go_ret
   exact ⟨ret_i hr2, by rw [← mkI_all]; exact hs, hm⟩
theorem markHoldS (v : Value) (xs : List Hold) (k : Int) (w : World) (F : List Nat) (h : Sl w v xs F) (hnd : F.Nodup) (hfz : ∀ b ∈ F, Fz w b) (hk0 : 0 ≤ k) (hk1 : k + (GT.ct xs : Nat) ≤ 1000000000000) :
  Calls Tryz.prog 93 #[v, .int .i64 k] w fun e w' => e = .returned (.int .i64 (k + (GT.ct xs : Nat))) ∧ Sl w' v (GT.mkE xs k) F ∧ Mo F w w' := by
 obtain ⟨a, c, rfl, hl⟩ := Rs.form ⟨F, h⟩
 have H := zh h
 have HN := zh hnd
 have HZ := zh hfz
 clear h hnd hfz
 go_enter Tryz.func93, Tryz.ntmps93
 go_wp2
 go_loopw [1, 5] (fun kk i wr => ∃ (j : Nat) (r : Int), j ≤ xs.length ∧ i = .int .i64 j ∧ kk = .int .i64 r ∧ Hid (r = k + (ctK xs j : Nat)) ∧ Sl wr (.slice a xs.length c) (mkI xs k j) F ∧ Mo F w wr) (fun _ i _ => xs.length - (intOf i).toNat)
 case atStart => exact ⟨0, k, Nat.zero_le _, by go_num, by go_num, zh (by simp [ctK_zero]), H.out, Mo.refl _ _⟩
 case round =>
  obtain ⟨j, r, hj, rfl, rfl, hr, hs, hm⟩ := hrel
  clear H
  by_cases hlt : j < xs.length
  ·obtain ⟨b, o, x, F0, cs, rfl, hx, henc, hat, HF⟩ := Sl.focus (i := j) hs HN.out (by rw [mkI_length]; exact hlt)
   have hx1 : Hid (xs[j]? = some x) := zh (by rw [← mkI_at xs k]; exact hx.out)
   have hct := ctK_at hx1.out
   have hr2 := hr.out
   obtain ⟨v0, rfl, h0⟩ := henc
   have hcx : GT.ct x = GT.ct x.Lst := by rfl
   obtain ⟨a0, c0, rfl, hl0⟩ := Rs.form ⟨_, h0⟩
   have nd0 := HF.out.2.2.2.1
   have hin := HF.out.1
   have hzF := fun y hy => hm.2.2.2 y (HZ.out y (hin y hy))
   have N0 := zh (nd0)
   have Z0 : Hid (∀ y ∈ F0, Fz wr y) := zh (fun y hy => hzF y (by simp [hy]))
   have S0 := zh h0
   have nb0 : b ∉ F0 := fun hh => HF.out.2.1 (by simp [hh])
   clear nd0 hin hzF h0
   have HMF : Hid (Mo F0 wr wr) := zh (Mo.refl _ _)
   have fzb := hm.2.2.2 b (HZ.out b HF.out.2.2.1)
   obtain ⟨CS, TT, hbk⟩ := fzb
   have HBK := zh hbk
   have hfz := hbk.fz
   have HA := zh hat
   have HM := zh hm
   have hd0 := hat 0 _ rfl
   simp only [GT.sz, Nat.mul_one, Nat.add_zero] at hd0
   clear hs hm hat hbk
   go_wp2_with fail
   refine (markIntS _ _ _ _ F0 S0.out N0.out Z0.out (by omega) (by omega)).mono ?_
   rintro e w1 ⟨rfl, hs0, hm0⟩
   replace S0 := zh hs0
   replace Z0 := zh (fun y hy => hm0.2.2.2 y (Z0.out y hy) : ∀ y ∈ F0, Fz w1 y)
   have hbb0 := hm0.2.2.1 b nb0
   have HB := zh hbb0
   replace HBK : Hid (Bk w1 b CS TT) := zh (by have h := HBK.out; unfold Bk at *; rw [hbb0]; exact h)
   replace HMF := zh (HMF.out.tr (hm0.wide (fun y hy => by simp [hy])))
   clear hfz
   have hfz := HBK.out.fz
   replace hd0 := (World.cell?_of_block (w := wr) (w' := w1) hbb0).trans hd0
   clear hs0 hm0 hbb0
   go_wp2
   go_roundw
   case rel =>
    refine ⟨j + 1, _, by omega, by go_num, rfl, zh (by have := ctK_succ hx1.out; omega), ?_, (HM.out.tr (HMF.out.wide HF.out.1))⟩
    rw [← mkI_succ k hx1.out]
    have hput := HF.out.2.2.2.2 (w1) (GT.mkE x (k + (ctK xs j : Nat))) [.slice a0 (x.Lst).length c0]
     (fun y hy hne hn => HMF.out.2.2.1 y hn) (fun o' ho => World.cell?_of_block HB.out)
     (⟨_, rfl, S0.out⟩)
     (by
      intro i u hi
      have hi2 : i < 1 := (List.getElem?_eq_some_iff.1 hi).1
      match i, hi2, hi with
      | 0, _, hi => cases hi; simpa [GT.sz] using hd0
      )
    exact hput
   case measure => simp [intOf]; omega
  ·obtain rfl : j = xs.length := by omega
   have hr2 := hr.out
   rw [ctK_all] at hr2
   go_wp2
   go_ret
   exact ⟨ret_i hr2, by rw [← mkI_all]; exact hs, hm⟩
theorem markMachineS (v : Value) (xs : List Machine) (k : Int) (w : World) (F : List Nat) (h : Sl w v xs F) (hnd : F.Nodup) (hfz : ∀ b ∈ F, Fz w b) (hk0 : 0 ≤ k) (hk1 : k + (GT.ct xs : Nat) ≤ 1000000000000) :
  Calls Tryz.prog 59 #[v, .int .i64 k] w fun e w' => e = .returned (.int .i64 (k + (GT.ct xs : Nat))) ∧ Sl w' v (GT.mkE xs k) F ∧ Mo F w w' := by
 obtain ⟨a, c, rfl, hl⟩ := Rs.form ⟨F, h⟩
 have H := zh h
 have HN := zh hnd
 have HZ := zh hfz
 clear h hnd hfz
 go_enter Tryz.func59, Tryz.ntmps59
 go_wp2
 go_loopw [1, 5] (fun kk i wr => ∃ (j : Nat) (r : Int), j ≤ xs.length ∧ i = .int .i64 j ∧ kk = .int .i64 r ∧ Hid (r = k + (ctK xs j : Nat)) ∧ Sl wr (.slice a xs.length c) (mkI xs k j) F ∧ Mo F w wr) (fun _ i _ => xs.length - (intOf i).toNat)
 case atStart => exact ⟨0, k, Nat.zero_le _, by go_num, by go_num, zh (by simp [ctK_zero]), H.out, Mo.refl _ _⟩
 case round =>
  obtain ⟨j, r, hj, rfl, rfl, hr, hs, hm⟩ := hrel
  clear H
  by_cases hlt : j < xs.length
  ·obtain ⟨b, o, x, F0, cs, rfl, hx, henc, hat, HF⟩ := Sl.focus (i := j) hs HN.out (by rw [mkI_length]; exact hlt)
   have hx1 : Hid (xs[j]? = some x) := zh (by rw [← mkI_at xs k]; exact hx.out)
   have hct := ctK_at hx1.out
   have hr2 := hr.out
   obtain ⟨v0, v1, v2, v3, v4, v5, G0, G1, G2, G3, G4, G5, rfl, h0, h1, h2, h3, h4, h5, g6, rfl⟩ := henc
   have hcx : GT.ct x = GT.ct x.Plan.Parts + GT.ct x.Plan.Channels + GT.ct x.Plan.Slots + GT.ct x.Programs + GT.ct x.Cores + GT.ct x.Holds + GT.ct x.Tick := by show GT.ct x.Plan + _ + _ + _ + _ = _; rfl
   have hc_6 : GT.ct x.Tick = 1 := rfl
   obtain ⟨a0, c0, rfl, hl0⟩ := Rs.form ⟨_, h0⟩
   obtain ⟨a1, c1, rfl, hl1⟩ := Rs.form ⟨_, h1⟩
   obtain ⟨a2, c2, rfl, hl2⟩ := Rs.form ⟨_, h2⟩
   obtain ⟨a3, c3, rfl, hl3⟩ := Rs.form ⟨_, h3⟩
   obtain ⟨a4, c4, rfl, hl4⟩ := Rs.form ⟨_, h4⟩
   obtain ⟨a5, c5, rfl, hl5⟩ := Rs.form ⟨_, h5⟩
   have nd0 := HF.out.2.2.2.1
   have nd1 := (List.nodup_append.1 nd0).2.1
   have nd2 := (List.nodup_append.1 nd1).2.1
   have nd3 := (List.nodup_append.1 nd2).2.1
   have nd4 := (List.nodup_append.1 nd3).2.1
   have nd5 := (List.nodup_append.1 nd4).2.1
   have hin := HF.out.1
   have hzF := fun y hy => hm.2.2.2 y (HZ.out y (hin y hy))
   have D0_1 : ∀ y, y ∈ G0 → y ∈ G1 → False := fun y p0 p1 => (List.nodup_append.1 nd0).2.2 y p0 y (by simp [p1]) rfl
   have D0_2 : ∀ y, y ∈ G0 → y ∈ G2 → False := fun y p0 p1 => (List.nodup_append.1 nd0).2.2 y p0 y (by simp [p1]) rfl
   have D0_3 : ∀ y, y ∈ G0 → y ∈ G3 → False := fun y p0 p1 => (List.nodup_append.1 nd0).2.2 y p0 y (by simp [p1]) rfl
   have D0_4 : ∀ y, y ∈ G0 → y ∈ G4 → False := fun y p0 p1 => (List.nodup_append.1 nd0).2.2 y p0 y (by simp [p1]) rfl
   have D0_5 : ∀ y, y ∈ G0 → y ∈ G5 → False := fun y p0 p1 => (List.nodup_append.1 nd0).2.2 y p0 y (by simp [p1]) rfl
   have D1_2 : ∀ y, y ∈ G1 → y ∈ G2 → False := fun y p0 p1 => (List.nodup_append.1 nd1).2.2 y p0 y (by simp [p1]) rfl
   have D1_3 : ∀ y, y ∈ G1 → y ∈ G3 → False := fun y p0 p1 => (List.nodup_append.1 nd1).2.2 y p0 y (by simp [p1]) rfl
   have D1_4 : ∀ y, y ∈ G1 → y ∈ G4 → False := fun y p0 p1 => (List.nodup_append.1 nd1).2.2 y p0 y (by simp [p1]) rfl
   have D1_5 : ∀ y, y ∈ G1 → y ∈ G5 → False := fun y p0 p1 => (List.nodup_append.1 nd1).2.2 y p0 y (by simp [p1]) rfl
   have D2_3 : ∀ y, y ∈ G2 → y ∈ G3 → False := fun y p0 p1 => (List.nodup_append.1 nd2).2.2 y p0 y (by simp [p1]) rfl
   have D2_4 : ∀ y, y ∈ G2 → y ∈ G4 → False := fun y p0 p1 => (List.nodup_append.1 nd2).2.2 y p0 y (by simp [p1]) rfl
   have D2_5 : ∀ y, y ∈ G2 → y ∈ G5 → False := fun y p0 p1 => (List.nodup_append.1 nd2).2.2 y p0 y (by simp [p1]) rfl
   have D3_4 : ∀ y, y ∈ G3 → y ∈ G4 → False := fun y p0 p1 => (List.nodup_append.1 nd3).2.2 y p0 y (by simp [p1]) rfl
   have D3_5 : ∀ y, y ∈ G3 → y ∈ G5 → False := fun y p0 p1 => (List.nodup_append.1 nd3).2.2 y p0 y (by simp [p1]) rfl
   have D4_5 : ∀ y, y ∈ G4 → y ∈ G5 → False := fun y p0 p1 => (List.nodup_append.1 nd4).2.2 y p0 y (by simp [p1]) rfl
   have N0 := zh ((List.nodup_append.1 nd0).1)
   have Z0 : Hid (∀ y ∈ G0, Fz wr y) := zh (fun y hy => hzF y (by simp [hy]))
   have S0 := zh h0
   have nb0 : b ∉ G0 := fun hh => HF.out.2.1 (by simp [hh])
   have N1 := zh ((List.nodup_append.1 nd1).1)
   have Z1 : Hid (∀ y ∈ G1, Fz wr y) := zh (fun y hy => hzF y (by simp [hy]))
   have S1 := zh h1
   have nb1 : b ∉ G1 := fun hh => HF.out.2.1 (by simp [hh])
   have N2 := zh ((List.nodup_append.1 nd2).1)
   have Z2 : Hid (∀ y ∈ G2, Fz wr y) := zh (fun y hy => hzF y (by simp [hy]))
   have S2 := zh h2
   have nb2 : b ∉ G2 := fun hh => HF.out.2.1 (by simp [hh])
   have N3 := zh ((List.nodup_append.1 nd3).1)
   have Z3 : Hid (∀ y ∈ G3, Fz wr y) := zh (fun y hy => hzF y (by simp [hy]))
   have S3 := zh h3
   have nb3 : b ∉ G3 := fun hh => HF.out.2.1 (by simp [hh])
   have N4 := zh ((List.nodup_append.1 nd4).1)
   have Z4 : Hid (∀ y ∈ G4, Fz wr y) := zh (fun y hy => hzF y (by simp [hy]))
   have S4 := zh h4
   have nb4 : b ∉ G4 := fun hh => HF.out.2.1 (by simp [hh])
   have N5 := zh (nd5)
   have Z5 : Hid (∀ y ∈ G5, Fz wr y) := zh (fun y hy => hzF y (by simp [hy]))
   have S5 := zh h5
   have nb5 : b ∉ G5 := fun hh => HF.out.2.1 (by simp [hh])
   clear nd0 nd1 nd2 nd3 nd4 nd5 hin hzF h0 h1 h2 h3 h4 h5
   have HMF : Hid (Mo (G0 ++ (G1 ++ (G2 ++ (G3 ++ (G4 ++ (G5)))))) wr wr) := zh (Mo.refl _ _)
   have fzb := hm.2.2.2 b (HZ.out b HF.out.2.2.1)
   obtain ⟨CS, TT, hbk⟩ := fzb
   have HBK := zh hbk
   have hfz := hbk.fz
   have HA := zh hat
   have HM := zh hm
   have hd0 := hat 0 _ rfl
   have hd1 := hat 1 _ rfl
   have hd2 := hat 2 _ rfl
   have hd3 := hat 3 _ rfl
   have hd4 := hat 4 _ rfl
   have hd5 := hat 5 _ rfl
   have hd6 := hat 6 _ rfl
   simp only [GT.sz, Nat.mul_one, Nat.add_zero] at hd0 hd1 hd2 hd3 hd4 hd5 hd6
   clear hs hm hat hbk
   go_wp2_with fail
   refine (markPartS _ _ _ _ G0 S0.out N0.out Z0.out (by omega) (by omega)).mono ?_
   rintro e w1 ⟨rfl, hs0, hm0⟩
   replace S0 := zh hs0
   replace Z0 := zh (fun y hy => hm0.2.2.2 y (Z0.out y hy) : ∀ y ∈ G0, Fz w1 y)
   replace S1 := zh (S1.out.keep (fun y hy => hm0.2.2.1 y (fun hh => D0_1 y hh hy)))
   replace Z1 := zh (fun y hy => hm0.2.2.2 y (Z1.out y hy) : ∀ y ∈ G1, Fz w1 y)
   replace S2 := zh (S2.out.keep (fun y hy => hm0.2.2.1 y (fun hh => D0_2 y hh hy)))
   replace Z2 := zh (fun y hy => hm0.2.2.2 y (Z2.out y hy) : ∀ y ∈ G2, Fz w1 y)
   replace S3 := zh (S3.out.keep (fun y hy => hm0.2.2.1 y (fun hh => D0_3 y hh hy)))
   replace Z3 := zh (fun y hy => hm0.2.2.2 y (Z3.out y hy) : ∀ y ∈ G3, Fz w1 y)
   replace S4 := zh (S4.out.keep (fun y hy => hm0.2.2.1 y (fun hh => D0_4 y hh hy)))
   replace Z4 := zh (fun y hy => hm0.2.2.2 y (Z4.out y hy) : ∀ y ∈ G4, Fz w1 y)
   replace S5 := zh (S5.out.keep (fun y hy => hm0.2.2.1 y (fun hh => D0_5 y hh hy)))
   replace Z5 := zh (fun y hy => hm0.2.2.2 y (Z5.out y hy) : ∀ y ∈ G5, Fz w1 y)
   have hbb0 := hm0.2.2.1 b nb0
   have HB := zh hbb0
   replace HBK : Hid (Bk w1 b CS TT) := zh (by have h := HBK.out; unfold Bk at *; rw [hbb0]; exact h)
   replace HMF := zh (HMF.out.tr (hm0.wide (fun y hy => by simp [hy])))
   clear hfz
   have hfz := HBK.out.fz
   replace hd0 := (World.cell?_of_block (w := wr) (w' := w1) hbb0).trans hd0
   replace hd1 := (World.cell?_of_block (w := wr) (w' := w1) hbb0).trans hd1
   replace hd2 := (World.cell?_of_block (w := wr) (w' := w1) hbb0).trans hd2
   replace hd3 := (World.cell?_of_block (w := wr) (w' := w1) hbb0).trans hd3
   replace hd4 := (World.cell?_of_block (w := wr) (w' := w1) hbb0).trans hd4
   replace hd5 := (World.cell?_of_block (w := wr) (w' := w1) hbb0).trans hd5
   replace hd6 := (World.cell?_of_block (w := wr) (w' := w1) hbb0).trans hd6
   clear hs0 hm0 hbb0
   go_wp2_with fail
   refine (markChannelS _ _ _ _ G1 S1.out N1.out Z1.out (by omega) (by omega)).mono ?_
   rintro e w2 ⟨rfl, hs1, hm1⟩
   replace S1 := zh hs1
   replace S0 := zh (S0.out.keep (fun y hy => hm1.2.2.1 y (fun hh => D0_1 y hy hh)))
   replace Z0 := zh (fun y hy => hm1.2.2.2 y (Z0.out y hy) : ∀ y ∈ G0, Fz w2 y)
   replace Z1 := zh (fun y hy => hm1.2.2.2 y (Z1.out y hy) : ∀ y ∈ G1, Fz w2 y)
   replace S2 := zh (S2.out.keep (fun y hy => hm1.2.2.1 y (fun hh => D1_2 y hh hy)))
   replace Z2 := zh (fun y hy => hm1.2.2.2 y (Z2.out y hy) : ∀ y ∈ G2, Fz w2 y)
   replace S3 := zh (S3.out.keep (fun y hy => hm1.2.2.1 y (fun hh => D1_3 y hh hy)))
   replace Z3 := zh (fun y hy => hm1.2.2.2 y (Z3.out y hy) : ∀ y ∈ G3, Fz w2 y)
   replace S4 := zh (S4.out.keep (fun y hy => hm1.2.2.1 y (fun hh => D1_4 y hh hy)))
   replace Z4 := zh (fun y hy => hm1.2.2.2 y (Z4.out y hy) : ∀ y ∈ G4, Fz w2 y)
   replace S5 := zh (S5.out.keep (fun y hy => hm1.2.2.1 y (fun hh => D1_5 y hh hy)))
   replace Z5 := zh (fun y hy => hm1.2.2.2 y (Z5.out y hy) : ∀ y ∈ G5, Fz w2 y)
   have hbb1 := hm1.2.2.1 b nb1
   replace HB := zh (hbb1.trans HB.out)
   replace HBK : Hid (Bk w2 b CS TT) := zh (by have h := HBK.out; unfold Bk at *; rw [hbb1]; exact h)
   replace HMF := zh (HMF.out.tr (hm1.wide (fun y hy => by simp [hy])))
   clear hfz
   have hfz := HBK.out.fz
   replace hd0 := (World.cell?_of_block (w := w1) (w' := w2) hbb1).trans hd0
   replace hd1 := (World.cell?_of_block (w := w1) (w' := w2) hbb1).trans hd1
   replace hd2 := (World.cell?_of_block (w := w1) (w' := w2) hbb1).trans hd2
   replace hd3 := (World.cell?_of_block (w := w1) (w' := w2) hbb1).trans hd3
   replace hd4 := (World.cell?_of_block (w := w1) (w' := w2) hbb1).trans hd4
   replace hd5 := (World.cell?_of_block (w := w1) (w' := w2) hbb1).trans hd5
   replace hd6 := (World.cell?_of_block (w := w1) (w' := w2) hbb1).trans hd6
   clear hs1 hm1 hbb1
   go_wp2_with fail
   refine (markSlotS _ _ _ _ G2 S2.out N2.out Z2.out (by omega) (by omega)).mono ?_
   rintro e w3 ⟨rfl, hs2, hm2⟩
   replace S2 := zh hs2
   replace S0 := zh (S0.out.keep (fun y hy => hm2.2.2.1 y (fun hh => D0_2 y hy hh)))
   replace Z0 := zh (fun y hy => hm2.2.2.2 y (Z0.out y hy) : ∀ y ∈ G0, Fz w3 y)
   replace S1 := zh (S1.out.keep (fun y hy => hm2.2.2.1 y (fun hh => D1_2 y hy hh)))
   replace Z1 := zh (fun y hy => hm2.2.2.2 y (Z1.out y hy) : ∀ y ∈ G1, Fz w3 y)
   replace Z2 := zh (fun y hy => hm2.2.2.2 y (Z2.out y hy) : ∀ y ∈ G2, Fz w3 y)
   replace S3 := zh (S3.out.keep (fun y hy => hm2.2.2.1 y (fun hh => D2_3 y hh hy)))
   replace Z3 := zh (fun y hy => hm2.2.2.2 y (Z3.out y hy) : ∀ y ∈ G3, Fz w3 y)
   replace S4 := zh (S4.out.keep (fun y hy => hm2.2.2.1 y (fun hh => D2_4 y hh hy)))
   replace Z4 := zh (fun y hy => hm2.2.2.2 y (Z4.out y hy) : ∀ y ∈ G4, Fz w3 y)
   replace S5 := zh (S5.out.keep (fun y hy => hm2.2.2.1 y (fun hh => D2_5 y hh hy)))
   replace Z5 := zh (fun y hy => hm2.2.2.2 y (Z5.out y hy) : ∀ y ∈ G5, Fz w3 y)
   have hbb2 := hm2.2.2.1 b nb2
   replace HB := zh (hbb2.trans HB.out)
   replace HBK : Hid (Bk w3 b CS TT) := zh (by have h := HBK.out; unfold Bk at *; rw [hbb2]; exact h)
   replace HMF := zh (HMF.out.tr (hm2.wide (fun y hy => by simp [hy])))
   clear hfz
   have hfz := HBK.out.fz
   replace hd0 := (World.cell?_of_block (w := w2) (w' := w3) hbb2).trans hd0
   replace hd1 := (World.cell?_of_block (w := w2) (w' := w3) hbb2).trans hd1
   replace hd2 := (World.cell?_of_block (w := w2) (w' := w3) hbb2).trans hd2
   replace hd3 := (World.cell?_of_block (w := w2) (w' := w3) hbb2).trans hd3
   replace hd4 := (World.cell?_of_block (w := w2) (w' := w3) hbb2).trans hd4
   replace hd5 := (World.cell?_of_block (w := w2) (w' := w3) hbb2).trans hd5
   replace hd6 := (World.cell?_of_block (w := w2) (w' := w3) hbb2).trans hd6
   clear hs2 hm2 hbb2
   go_wp2_with fail
   refine (markOrderSS _ _ _ _ G3 S3.out N3.out Z3.out (by omega) (by omega)).mono ?_
   rintro e w4 ⟨rfl, hs3, hm3⟩
   replace S3 := zh hs3
   replace S0 := zh (S0.out.keep (fun y hy => hm3.2.2.1 y (fun hh => D0_3 y hy hh)))
   replace Z0 := zh (fun y hy => hm3.2.2.2 y (Z0.out y hy) : ∀ y ∈ G0, Fz w4 y)
   replace S1 := zh (S1.out.keep (fun y hy => hm3.2.2.1 y (fun hh => D1_3 y hy hh)))
   replace Z1 := zh (fun y hy => hm3.2.2.2 y (Z1.out y hy) : ∀ y ∈ G1, Fz w4 y)
   replace S2 := zh (S2.out.keep (fun y hy => hm3.2.2.1 y (fun hh => D2_3 y hy hh)))
   replace Z2 := zh (fun y hy => hm3.2.2.2 y (Z2.out y hy) : ∀ y ∈ G2, Fz w4 y)
   replace Z3 := zh (fun y hy => hm3.2.2.2 y (Z3.out y hy) : ∀ y ∈ G3, Fz w4 y)
   replace S4 := zh (S4.out.keep (fun y hy => hm3.2.2.1 y (fun hh => D3_4 y hh hy)))
   replace Z4 := zh (fun y hy => hm3.2.2.2 y (Z4.out y hy) : ∀ y ∈ G4, Fz w4 y)
   replace S5 := zh (S5.out.keep (fun y hy => hm3.2.2.1 y (fun hh => D3_5 y hh hy)))
   replace Z5 := zh (fun y hy => hm3.2.2.2 y (Z5.out y hy) : ∀ y ∈ G5, Fz w4 y)
   have hbb3 := hm3.2.2.1 b nb3
   replace HB := zh (hbb3.trans HB.out)
   replace HBK : Hid (Bk w4 b CS TT) := zh (by have h := HBK.out; unfold Bk at *; rw [hbb3]; exact h)
   replace HMF := zh (HMF.out.tr (hm3.wide (fun y hy => by simp [hy])))
   clear hfz
   have hfz := HBK.out.fz
   replace hd0 := (World.cell?_of_block (w := w3) (w' := w4) hbb3).trans hd0
   replace hd1 := (World.cell?_of_block (w := w3) (w' := w4) hbb3).trans hd1
   replace hd2 := (World.cell?_of_block (w := w3) (w' := w4) hbb3).trans hd2
   replace hd3 := (World.cell?_of_block (w := w3) (w' := w4) hbb3).trans hd3
   replace hd4 := (World.cell?_of_block (w := w3) (w' := w4) hbb3).trans hd4
   replace hd5 := (World.cell?_of_block (w := w3) (w' := w4) hbb3).trans hd5
   replace hd6 := (World.cell?_of_block (w := w3) (w' := w4) hbb3).trans hd6
   clear hs3 hm3 hbb3
   go_wp2_with fail
   refine (markCoreS _ _ _ _ G4 S4.out N4.out Z4.out (by omega) (by omega)).mono ?_
   rintro e w5 ⟨rfl, hs4, hm4⟩
   replace S4 := zh hs4
   replace S0 := zh (S0.out.keep (fun y hy => hm4.2.2.1 y (fun hh => D0_4 y hy hh)))
   replace Z0 := zh (fun y hy => hm4.2.2.2 y (Z0.out y hy) : ∀ y ∈ G0, Fz w5 y)
   replace S1 := zh (S1.out.keep (fun y hy => hm4.2.2.1 y (fun hh => D1_4 y hy hh)))
   replace Z1 := zh (fun y hy => hm4.2.2.2 y (Z1.out y hy) : ∀ y ∈ G1, Fz w5 y)
   replace S2 := zh (S2.out.keep (fun y hy => hm4.2.2.1 y (fun hh => D2_4 y hy hh)))
   replace Z2 := zh (fun y hy => hm4.2.2.2 y (Z2.out y hy) : ∀ y ∈ G2, Fz w5 y)
   replace S3 := zh (S3.out.keep (fun y hy => hm4.2.2.1 y (fun hh => D3_4 y hy hh)))
   replace Z3 := zh (fun y hy => hm4.2.2.2 y (Z3.out y hy) : ∀ y ∈ G3, Fz w5 y)
   replace Z4 := zh (fun y hy => hm4.2.2.2 y (Z4.out y hy) : ∀ y ∈ G4, Fz w5 y)
   replace S5 := zh (S5.out.keep (fun y hy => hm4.2.2.1 y (fun hh => D4_5 y hh hy)))
   replace Z5 := zh (fun y hy => hm4.2.2.2 y (Z5.out y hy) : ∀ y ∈ G5, Fz w5 y)
   have hbb4 := hm4.2.2.1 b nb4
   replace HB := zh (hbb4.trans HB.out)
   replace HBK : Hid (Bk w5 b CS TT) := zh (by have h := HBK.out; unfold Bk at *; rw [hbb4]; exact h)
   replace HMF := zh (HMF.out.tr (hm4.wide (fun y hy => by simp [hy])))
   clear hfz
   have hfz := HBK.out.fz
   replace hd0 := (World.cell?_of_block (w := w4) (w' := w5) hbb4).trans hd0
   replace hd1 := (World.cell?_of_block (w := w4) (w' := w5) hbb4).trans hd1
   replace hd2 := (World.cell?_of_block (w := w4) (w' := w5) hbb4).trans hd2
   replace hd3 := (World.cell?_of_block (w := w4) (w' := w5) hbb4).trans hd3
   replace hd4 := (World.cell?_of_block (w := w4) (w' := w5) hbb4).trans hd4
   replace hd5 := (World.cell?_of_block (w := w4) (w' := w5) hbb4).trans hd5
   replace hd6 := (World.cell?_of_block (w := w4) (w' := w5) hbb4).trans hd6
   clear hs4 hm4 hbb4
   go_wp2_with fail
   refine (markHoldS _ _ _ _ G5 S5.out N5.out Z5.out (by omega) (by omega)).mono ?_
   rintro e w6 ⟨rfl, hs5, hm5⟩
   replace S5 := zh hs5
   replace S0 := zh (S0.out.keep (fun y hy => hm5.2.2.1 y (fun hh => D0_5 y hy hh)))
   replace Z0 := zh (fun y hy => hm5.2.2.2 y (Z0.out y hy) : ∀ y ∈ G0, Fz w6 y)
   replace S1 := zh (S1.out.keep (fun y hy => hm5.2.2.1 y (fun hh => D1_5 y hy hh)))
   replace Z1 := zh (fun y hy => hm5.2.2.2 y (Z1.out y hy) : ∀ y ∈ G1, Fz w6 y)
   replace S2 := zh (S2.out.keep (fun y hy => hm5.2.2.1 y (fun hh => D2_5 y hy hh)))
   replace Z2 := zh (fun y hy => hm5.2.2.2 y (Z2.out y hy) : ∀ y ∈ G2, Fz w6 y)
   replace S3 := zh (S3.out.keep (fun y hy => hm5.2.2.1 y (fun hh => D3_5 y hy hh)))
   replace Z3 := zh (fun y hy => hm5.2.2.2 y (Z3.out y hy) : ∀ y ∈ G3, Fz w6 y)
   replace S4 := zh (S4.out.keep (fun y hy => hm5.2.2.1 y (fun hh => D4_5 y hy hh)))
   replace Z4 := zh (fun y hy => hm5.2.2.2 y (Z4.out y hy) : ∀ y ∈ G4, Fz w6 y)
   replace Z5 := zh (fun y hy => hm5.2.2.2 y (Z5.out y hy) : ∀ y ∈ G5, Fz w6 y)
   have hbb5 := hm5.2.2.1 b nb5
   replace HB := zh (hbb5.trans HB.out)
   replace HBK : Hid (Bk w6 b CS TT) := zh (by have h := HBK.out; unfold Bk at *; rw [hbb5]; exact h)
   replace HMF := zh (HMF.out.tr (hm5.wide (fun y hy => by simp [hy])))
   clear hfz
   have hfz := HBK.out.fz
   replace hd0 := (World.cell?_of_block (w := w5) (w' := w6) hbb5).trans hd0
   replace hd1 := (World.cell?_of_block (w := w5) (w' := w6) hbb5).trans hd1
   replace hd2 := (World.cell?_of_block (w := w5) (w' := w6) hbb5).trans hd2
   replace hd3 := (World.cell?_of_block (w := w5) (w' := w6) hbb5).trans hd3
   replace hd4 := (World.cell?_of_block (w := w5) (w' := w6) hbb5).trans hd4
   replace hd5 := (World.cell?_of_block (w := w5) (w' := w6) hbb5).trans hd5
   replace hd6 := (World.cell?_of_block (w := w5) (w' := w6) hbb5).trans hd6
   clear hs5 hm5 hbb5
   go_wp2
   go_roundw
   case rel =>
    refine ⟨j + 1, _, by omega, by go_num, rfl, zh (by have := ctK_succ hx1.out; omega), ?_, (Mo.set (HM.out.tr (HMF.out.wide HF.out.1)) (by exact HF.out.2.2.1) _)⟩
    rw [← mkI_succ k hx1.out]
    have hpl : ((GT.ct x.Plan : Nat) : Int) = (GT.ct x.Plan.Parts : Nat) + (GT.ct x.Plan.Channels : Nat) + (GT.ct x.Plan.Slots : Nat) := by
     show ((_ + _ + _ : Nat) : Int) = _
     omega
    have hmk : GT.mkE x (k + (ctK xs j : Nat)) = ({ Plan := GT.mkE x.Plan (k + (ctK xs j : Nat)), Programs := GT.mkE x.Programs (k + (ctK xs j : Nat) + (GT.ct x.Plan.Parts : Nat) + (GT.ct x.Plan.Channels : Nat) + (GT.ct x.Plan.Slots : Nat)), Cores := GT.mkE x.Cores (k + (ctK xs j : Nat) + (GT.ct x.Plan.Parts : Nat) + (GT.ct x.Plan.Channels : Nat) + (GT.ct x.Plan.Slots : Nat) + (GT.ct x.Programs : Nat)), Holds := GT.mkE x.Holds (k + (ctK xs j : Nat) + (GT.ct x.Plan.Parts : Nat) + (GT.ct x.Plan.Channels : Nat) + (GT.ct x.Plan.Slots : Nat) + (GT.ct x.Programs : Nat) + (GT.ct x.Cores : Nat)), Tick := k + (ctK xs j : Nat) + (GT.ct x.Plan.Parts : Nat) + (GT.ct x.Plan.Channels : Nat) + (GT.ct x.Plan.Slots : Nat) + (GT.ct x.Programs : Nat) + (GT.ct x.Cores : Nat) + (GT.ct x.Holds : Nat) } : Machine) := by
     show ({ Plan := GT.mkE x.Plan (k + (ctK xs j : Nat)), Programs := GT.mkE x.Programs (k + (ctK xs j : Nat) + (GT.ct x.Plan : Nat)), Cores := GT.mkE x.Cores (k + (ctK xs j : Nat) + (GT.ct x.Plan : Nat) + (GT.ct x.Programs : Nat)), Holds := GT.mkE x.Holds (k + (ctK xs j : Nat) + (GT.ct x.Plan : Nat) + (GT.ct x.Programs : Nat) + (GT.ct x.Cores : Nat)), Tick := k + (ctK xs j : Nat) + (GT.ct x.Plan : Nat) + (GT.ct x.Programs : Nat) + (GT.ct x.Cores : Nat) + (GT.ct x.Holds : Nat) } : Machine) = _
     rw [hpl]
     simp only [Int.add_assoc]
    rw [hmk]
    have hput := HF.out.2.2.2.2 (putCells w6 b (o + j * GT.sz Machine + 6) [.int .i64 (k + (ctK xs j : Nat) + (GT.ct x.Plan.Parts : Nat) + (GT.ct x.Plan.Channels : Nat) + (GT.ct x.Plan.Slots : Nat) + (GT.ct x.Programs : Nat) + (GT.ct x.Cores : Nat) + (GT.ct x.Holds : Nat))]) ({ Plan := GT.mkE x.Plan (k + (ctK xs j : Nat)), Programs := GT.mkE x.Programs (k + (ctK xs j : Nat) + (GT.ct x.Plan.Parts : Nat) + (GT.ct x.Plan.Channels : Nat) + (GT.ct x.Plan.Slots : Nat)), Cores := GT.mkE x.Cores (k + (ctK xs j : Nat) + (GT.ct x.Plan.Parts : Nat) + (GT.ct x.Plan.Channels : Nat) + (GT.ct x.Plan.Slots : Nat) + (GT.ct x.Programs : Nat)), Holds := GT.mkE x.Holds (k + (ctK xs j : Nat) + (GT.ct x.Plan.Parts : Nat) + (GT.ct x.Plan.Channels : Nat) + (GT.ct x.Plan.Slots : Nat) + (GT.ct x.Programs : Nat) + (GT.ct x.Cores : Nat)), Tick := k + (ctK xs j : Nat) + (GT.ct x.Plan.Parts : Nat) + (GT.ct x.Plan.Channels : Nat) + (GT.ct x.Plan.Slots : Nat) + (GT.ct x.Programs : Nat) + (GT.ct x.Cores : Nat) + (GT.ct x.Holds : Nat) } : Machine) [.slice a0 (x.Plan.Parts).length c0, .slice a1 (x.Plan.Channels).length c1, .slice a2 (x.Plan.Slots).length c2, .slice a3 (x.Programs).length c3, .slice a4 (x.Cores).length c4, .slice a5 (x.Holds).length c5, .int .i64 (k + (ctK xs j : Nat) + (GT.ct x.Plan.Parts : Nat) + (GT.ct x.Plan.Channels : Nat) + (GT.ct x.Plan.Slots : Nat) + (GT.ct x.Programs : Nat) + (GT.ct x.Cores : Nat) + (GT.ct x.Holds : Nat))]
     (fun y hy hne hn => (putCells_heap hne).trans (HMF.out.2.2.1 y hn)) (fun o' ho => (putCells_out (by simp only [GT.sz, List.length_cons, List.length_nil] at ho ⊢; omega)).trans (World.cell?_of_block HB.out))
     (⟨_, _, _, _, _, _, _, _, _, _, _, _, rfl, S0.out.keep (fun y hy => putCells_heap (b := b) (fun e => nb0 (e ▸ hy))), S1.out.keep (fun y hy => putCells_heap (b := b) (fun e => nb1 (e ▸ hy))), S2.out.keep (fun y hy => putCells_heap (b := b) (fun e => nb2 (e ▸ hy))), S3.out.keep (fun y hy => putCells_heap (b := b) (fun e => nb3 (e ▸ hy))), S4.out.keep (fun y hy => putCells_heap (b := b) (fun e => nb4 (e ▸ hy))), S5.out.keep (fun y hy => putCells_heap (b := b) (fun e => nb5 (e ▸ hy))), rng_mk (n := k + (ctK xs j : Nat) + (GT.ct x.Plan.Parts : Nat) + (GT.ct x.Plan.Channels : Nat) + (GT.ct x.Plan.Slots : Nat) + (GT.ct x.Programs : Nat) + (GT.ct x.Cores : Nat) + (GT.ct x.Holds : Nat)) (by omega) (by omega), rfl⟩)
     (by
      intro i u hi
      have hi2 : i < 7 := (List.getElem?_eq_some_iff.1 hi).1
      have hcells : At (putCells w6 b (o + j * GT.sz Machine + 6) [.int .i64 (k + (ctK xs j : Nat) + (GT.ct x.Plan.Parts : Nat) + (GT.ct x.Plan.Channels : Nat) + (GT.ct x.Plan.Slots : Nat) + (GT.ct x.Programs : Nat) + (GT.ct x.Cores : Nat) + (GT.ct x.Holds : Nat))]) b (o + j * GT.sz Machine + 6) [.int .i64 (k + (ctK xs j : Nat) + (GT.ct x.Plan.Parts : Nat) + (GT.ct x.Plan.Channels : Nat) + (GT.ct x.Plan.Slots : Nat) + (GT.ct x.Programs : Nat) + (GT.ct x.Cores : Nat) + (GT.ct x.Holds : Nat))] := putCells_in (by
       intro z hz
       have hz2 : z < 1 := hz
       match z, hz2 with
       | 0, _ => exact ⟨_, hd6⟩
       )
      match i, hi2, hi with
      | 0, _, hi => cases hi; exact (putCells_out (by left; omega)).trans hd0
      | 1, _, hi => cases hi; exact (putCells_out (by left; omega)).trans hd1
      | 2, _, hi => cases hi; exact (putCells_out (by left; omega)).trans hd2
      | 3, _, hi => cases hi; exact (putCells_out (by left; omega)).trans hd3
      | 4, _, hi => cases hi; exact (putCells_out (by left; omega)).trans hd4
      | 5, _, hi => cases hi; exact (putCells_out (by left; omega)).trans hd5
      | 6, _, hi => cases hi; exact hcells 0 _ rfl
      )
    exact hput
   case measure => simp [intOf]; omega
  ·obtain rfl : j = xs.length := by omega
   have hr2 := hr.out
   rw [ctK_all] at hr2
   go_wp2
   go_ret
   exact ⟨ret_i hr2, by rw [← mkI_all]; exact hs, hm⟩
end Sk
