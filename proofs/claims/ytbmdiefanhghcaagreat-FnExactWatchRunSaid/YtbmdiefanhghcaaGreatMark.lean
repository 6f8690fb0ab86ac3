/- Contracts of functions of the given program, each under the condition that it states. -/
import Derived.Test.YtbmdiefanhghcaaGreatChecked
import Derived.Test.YtbmdiefanhghcaaGreatFoc
namespace Sk
open Go Go.Proofs Go.RowKit
set_option maxHeartbeats 400000
set_option maxRecDepth 100000
set_option linter.unusedVariables false
set_option linter.unusedSimpArgs false
theorem markIntS (v : Value) (xs : List Int) (k : Int) (w : World) (F : List Nat) (h : Sl w v xs F) (hnd : F.Nodup) (hfz : ∀ b ∈ F, Fz w b) (hk0 : 0 ≤ k) (hk1 : k + (GT.ct xs : Nat) ≤ 1000000000000) :
  Calls Tryz.prog 16 #[v, .int .i64 k] w fun e w' => e = .returned (.int .i64 (k + (GT.ct xs : Nat))) ∧ Sl w' v (GT.mkE xs k) F ∧ Mo F w w' := by
 obtain ⟨a, c, rfl, hl⟩ := Rs.form ⟨F, h⟩
 have H := zh h
 have HN := zh hnd
 have HZ := zh hfz
 clear h hnd hfz
 go_enter Tryz.func16, Tryz.ntmps16
 go_wp2
 go_loopw [1, 5] (fun kk i wr => ∃ (j : Nat) (r : Int), j ≤ xs.length ∧ i = .int .i64 j ∧ kk = .int .i64 r ∧ Hid (r = k + (ctK xs j : Nat)) ∧ Sl wr (.slice a xs.length c) (mkI xs k j) F ∧ Mo F w wr) (fun _ i _ => xs.length - (intOf i).toNat)
 case atStart => exact ⟨0, k, Nat.zero_le _, by go_num, by go_num, zh (by simp [ctK_zero]), H.out, Mo.refl _ _⟩
 case round =>
  obtain ⟨j, r, hj, rfl, rfl, hr, hs, hm⟩ := hrel
  clear H
  by_cases hlt : j < xs.length
  ·obtain ⟨b, o, x, F0, cs, rfl, hx, henc, hat, HF⟩ := Sl.focus (i := j) hs HN.out (by rw [mkI_length]; exact hlt)
   have hx1 : Hid (xs[j]? = some x) := zh (by rw [← mkI_at xs k]; exact hx.out)
   have hct := ctK_at hx1.out
   have hr2 := hr.out
   obtain ⟨rfl, g0, rfl⟩ := henc
   have hcx : GT.ct x = 1 := rfl
   obtain ⟨CS, TT, hbk⟩ := hm.2.2.2 b (HZ.out b HF.out.2.2.1)
   have hfz := hbk.fz
   have hd0 := hat 0 _ rfl
   have HM := zh hm
   have HS := zh hs
   have HA := zh hat
   clear hs hm hat hbk
   simp only [GT.sz, Nat.mul_one, Nat.add_zero] at hd0
   go_wp2
   go_roundw
   case rel =>
    refine ⟨j + 1, _, by omega, by go_num, rfl, zh (by have := ctK_succ hx1.out; omega), ?_, (Mo.set HM.out (by exact HF.out.2.2.1) _)⟩
    rw [← mkI_succ k hx1.out]
    have hput := HF.out.2.2.2.2 (putCells wr b (o + j * GT.sz Int) [.int .i64 (k + (ctK xs j : Nat))]) (GT.mkE x (k + (ctK xs j : Nat))) _
     (fun k' hk hne _ => putCells_heap hne) (fun o' ho => putCells_out ho) (⟨rfl, rng_mk (n := k + (ctK xs j : Nat)) (by omega) (by omega), rfl⟩)
     (putCells_in (fun i hi => ⟨_, HA.out i _ (List.getElem?_eq_getElem (by simpa using hi))⟩))
    simpa [putCells, GT.sz] using hput
   case measure => simp [intOf]; omega
  ·obtain rfl : j = xs.length := by omega
   have hr2 := hr.out
   rw [ctK_all] at hr2
   go_wp2
   go_ret
   exact ⟨ret_i hr2, by rw [← mkI_all]; exact hs, hm⟩
theorem markWindowS (v : Value) (xs : List Window) (k : Int) (w : World) (F : List Nat) (h : Sl w v xs F) (hnd : F.Nodup) (hfz : ∀ b ∈ F, Fz w b) (hk0 : 0 ≤ k) (hk1 : k + (GT.ct xs : Nat) ≤ 1000000000000) :
  Calls Tryz.prog 167 #[v, .int .i64 k] w fun e w' => e = .returned (.int .i64 (k + (GT.ct xs : Nat))) ∧ Sl w' v (GT.mkE xs k) F ∧ Mo F w w' := by
 obtain ⟨a, c, rfl, hl⟩ := Rs.form ⟨F, h⟩
 have H := zh h
 have HN := zh hnd
 have HZ := zh hfz
 clear h hnd hfz
 go_enter Tryz.func167, Tryz.ntmps167
 go_wp2
 go_loopw [1, 5] (fun kk i wr => ∃ (j : Nat) (r : Int), j ≤ xs.length ∧ i = .int .i64 j ∧ kk = .int .i64 r ∧ Hid (r = k + (ctK xs j : Nat)) ∧ Sl wr (.slice a xs.length c) (mkI xs k j) F ∧ Mo F w wr) (fun _ i _ => xs.length - (intOf i).toNat)
 case atStart => exact ⟨0, k, Nat.zero_le _, by go_num, by go_num, zh (by simp [ctK_zero]), H.out, Mo.refl _ _⟩
 case round =>
  obtain ⟨j, r, hj, rfl, rfl, hr, hs, hm⟩ := hrel
  clear H
  by_cases hlt : j < xs.length
  ·obtain ⟨b, o, x, F0, cs, rfl, hx, henc, hat, HF⟩ := Sl.focus (i := j) hs HN.out (by rw [mkI_length]; exact hlt)
   have hx1 : Hid (xs[j]? = some x) := zh (by rw [← mkI_at xs k]; exact hx.out)
   have hct := ctK_at hx1.out
   have hr2 := hr.out
   obtain ⟨rfl, g0, g1, rfl⟩ := henc
   have hcx : GT.ct x = 3 := rfl
   obtain ⟨CS, TT, hbk⟩ := hm.2.2.2 b (HZ.out b HF.out.2.2.1)
   have hfz := hbk.fz
   have hd0 := hat 0 _ rfl
   have hd1 := hat 1 _ rfl
   have hd2 := hat 2 _ rfl
   have HM := zh hm
   have HS := zh hs
   have HA := zh hat
   clear hs hm hat hbk
   simp only [GT.sz, Nat.mul_one, Nat.add_zero] at hd0 hd1 hd2
   go_wp2
   go_roundw
   case rel =>
    refine ⟨j + 1, _, by omega, by go_num, rfl, zh (by have := ctK_succ hx1.out; omega), ?_, (Mo.set (Mo.set (Mo.set HM.out (by exact HF.out.2.2.1) _) (by exact HF.out.2.2.1) _) (by exact HF.out.2.2.1) _)⟩
    rw [← mkI_succ k hx1.out]
    have hput := HF.out.2.2.2.2 (putCells wr b (o + j * GT.sz Window) [.int .i64 (k + (ctK xs j : Nat)), .int .i64 (k + (ctK xs j : Nat) + 1), .bool ((k + (ctK xs j : Nat) + 1 + 1) % 3 == 0)]) (GT.mkE x (k + (ctK xs j : Nat))) _
     (fun k' hk hne _ => putCells_heap hne) (fun o' ho => putCells_out ho) (⟨rfl, rng_mk (n := k + (ctK xs j : Nat)) (by omega) (by omega), rng_mk (n := k + (ctK xs j : Nat) + 1) (by omega) (by omega), rfl⟩)
     (putCells_in (fun i hi => ⟨_, HA.out i _ (List.getElem?_eq_getElem (by simpa using hi))⟩))
    exact hput
   case measure => simp [intOf]; omega
  ·obtain rfl : j = xs.length := by omega
   have hr2 := hr.out
   rw [ctK_all] at hr2
   go_wp2
   go_ret
   exact ⟨ret_i hr2, by rw [← mkI_all]; exact hs, hm⟩
theorem markChannelS (v : Value) (xs : List Channel) (k : Int) (w : World) (F : List Nat) (h : Sl w v xs F) (hnd : F.Nodup) (hfz : ∀ b ∈ F, Fz w b) (hk0 : 0 ≤ k) (hk1 : k + (GT.ct xs : Nat) ≤ 1000000000000) :
  Calls Tryz.prog 112 #[v, .int .i64 k] w fun e w' => e = .returned (.int .i64 (k + (GT.ct xs : Nat))) ∧ Sl w' v (GT.mkE xs k) F ∧ Mo F w w' := by
 obtain ⟨a, c, rfl, hl⟩ := Rs.form ⟨F, h⟩
 have H := zh h
 have HN := zh hnd
 have HZ := zh hfz
 clear h hnd hfz
 go_enter Tryz.func112, Tryz.ntmps112
 go_wp2
 go_loopw [1, 5] (fun kk i wr => ∃ (j : Nat) (r : Int), j ≤ xs.length ∧ i = .int .i64 j ∧ kk = .int .i64 r ∧ Hid (r = k + (ctK xs j : Nat)) ∧ Sl wr (.slice a xs.length c) (mkI xs k j) F ∧ Mo F w wr) (fun _ i _ => xs.length - (intOf i).toNat)
 case atStart => exact ⟨0, k, Nat.zero_le _, by go_num, by go_num, zh (by simp [ctK_zero]), H.out, Mo.refl _ _⟩
 case round =>
  obtain ⟨j, r, hj, rfl, rfl, hr, hs, hm⟩ := hrel
  clear H
  by_cases hlt : j < xs.length
  ·obtain ⟨b, o, x, F0, cs, rfl, hx, henc, hat, HF⟩ := Sl.focus (i := j) hs HN.out (by rw [mkI_length]; exact hlt)
   have hx1 : Hid (xs[j]? = some x) := zh (by rw [← mkI_at xs k]; exact hx.out)
   have hct := ctK_at hx1.out
   have hr2 := hr.out
   obtain ⟨rfl, g0, g1, g2, g3, rfl⟩ := henc
   have hcx : GT.ct x = 4 := rfl
   obtain ⟨CS, TT, hbk⟩ := hm.2.2.2 b (HZ.out b HF.out.2.2.1)
   have hfz := hbk.fz
   have hd0 := hat 0 _ rfl
   have hd1 := hat 1 _ rfl
   have hd2 := hat 2 _ rfl
   have hd3 := hat 3 _ rfl
   have HM := zh hm
   have HS := zh hs
   have HA := zh hat
   clear hs hm hat hbk
   simp only [GT.sz, Nat.mul_one, Nat.add_zero] at hd0 hd1 hd2 hd3
   go_wp2
   go_roundw
   case rel =>
    refine ⟨j + 1, _, by omega, by go_num, rfl, zh (by have := ctK_succ hx1.out; omega), ?_, (Mo.set (Mo.set (Mo.set (Mo.set HM.out (by exact HF.out.2.2.1) _) (by exact HF.out.2.2.1) _) (by exact HF.out.2.2.1) _) (by exact HF.out.2.2.1) _)⟩
    rw [← mkI_succ k hx1.out]
    have hput := HF.out.2.2.2.2 (putCells wr b (o + j * GT.sz Channel) [.int .i64 (k + (ctK xs j : Nat)), .int .i64 (k + (ctK xs j : Nat) + 1), .int .i64 (k + (ctK xs j : Nat) + 1 + 1), .int .i64 (k + (ctK xs j : Nat) + 1 + 1 + 1)]) (GT.mkE x (k + (ctK xs j : Nat))) _
     (fun k' hk hne _ => putCells_heap hne) (fun o' ho => putCells_out ho) (⟨rfl, rng_mk (n := k + (ctK xs j : Nat)) (by omega) (by omega), rng_mk (n := k + (ctK xs j : Nat) + 1) (by omega) (by omega), rng_mk (n := k + (ctK xs j : Nat) + 1 + 1) (by omega) (by omega), rng_mk (n := k + (ctK xs j : Nat) + 1 + 1 + 1) (by omega) (by omega), rfl⟩)
     (putCells_in (fun i hi => ⟨_, HA.out i _ (List.getElem?_eq_getElem (by simpa using hi))⟩))
    exact hput
   case measure => simp [intOf]; omega
  ·obtain rfl : j = xs.length := by omega
   have hr2 := hr.out
   rw [ctK_all] at hr2
   go_wp2
   go_ret
   exact ⟨ret_i hr2, by rw [← mkI_all]; exact hs, hm⟩
theorem markSlotS (v : Value) (xs : List Slot) (k : Int) (w : World) (F : List Nat) (h : Sl w v xs F) (hnd : F.Nodup) (hfz : ∀ b ∈ F, Fz w b) (hk0 : 0 ≤ k) (hk1 : k + (GT.ct xs : Nat) ≤ 1000000000000) :
  Calls Tryz.prog 113 #[v, .int .i64 k] w fun e w' => e = .returned (.int .i64 (k + (GT.ct xs : Nat))) ∧ Sl w' v (GT.mkE xs k) F ∧ Mo F w w' := by
 obtain ⟨a, c, rfl, hl⟩ := Rs.form ⟨F, h⟩
 have H := zh h
 have HN := zh hnd
 have HZ := zh hfz
 clear h hnd hfz
 go_enter Tryz.func113, Tryz.ntmps113
 go_wp2
 go_loopw [1, 5] (fun kk i wr => ∃ (j : Nat) (r : Int), j ≤ xs.length ∧ i = .int .i64 j ∧ kk = .int .i64 r ∧ Hid (r = k + (ctK xs j : Nat)) ∧ Sl wr (.slice a xs.length c) (mkI xs k j) F ∧ Mo F w wr) (fun _ i _ => xs.length - (intOf i).toNat)
 case atStart => exact ⟨0, k, Nat.zero_le _, by go_num, by go_num, zh (by simp [ctK_zero]), H.out, Mo.refl _ _⟩
 case round =>
  obtain ⟨j, r, hj, rfl, rfl, hr, hs, hm⟩ := hrel
  clear H
  by_cases hlt : j < xs.length
  ·obtain ⟨b, o, x, F0, cs, rfl, hx, henc, hat, HF⟩ := Sl.focus (i := j) hs HN.out (by rw [mkI_length]; exact hlt)
   have hx1 : Hid (xs[j]? = some x) := zh (by rw [← mkI_at xs k]; exact hx.out)
   have hct := ctK_at hx1.out
   have hr2 := hr.out
   obtain ⟨rfl, g0, g1, rfl⟩ := henc
   have hcx : GT.ct x = 2 := rfl
   obtain ⟨CS, TT, hbk⟩ := hm.2.2.2 b (HZ.out b HF.out.2.2.1)
   have hfz := hbk.fz
   have hd0 := hat 0 _ rfl
   have hd1 := hat 1 _ rfl
   have HM := zh hm
   have HS := zh hs
   have HA := zh hat
   clear hs hm hat hbk
   simp only [GT.sz, Nat.mul_one, Nat.add_zero] at hd0 hd1
   go_wp2
   go_roundw
   case rel =>
    refine ⟨j + 1, _, by omega, by go_num, rfl, zh (by have := ctK_succ hx1.out; omega), ?_, (Mo.set (Mo.set HM.out (by exact HF.out.2.2.1) _) (by exact HF.out.2.2.1) _)⟩
    rw [← mkI_succ k hx1.out]
    have hput := HF.out.2.2.2.2 (putCells wr b (o + j * GT.sz Slot) [.int .i64 (k + (ctK xs j : Nat)), .int .i64 (k + (ctK xs j : Nat) + 1)]) (GT.mkE x (k + (ctK xs j : Nat))) _
     (fun k' hk hne _ => putCells_heap hne) (fun o' ho => putCells_out ho) (⟨rfl, rng_mk (n := k + (ctK xs j : Nat)) (by omega) (by omega), rng_mk (n := k + (ctK xs j : Nat) + 1) (by omega) (by omega), rfl⟩)
     (putCells_in (fun i hi => ⟨_, HA.out i _ (List.getElem?_eq_getElem (by simpa using hi))⟩))
    exact hput
   case measure => simp [intOf]; omega
  ·obtain rfl : j = xs.length := by omega
   have hr2 := hr.out
   rw [ctK_all] at hr2
   go_wp2
   go_ret
   exact ⟨ret_i hr2, by rw [← mkI_all]; exact hs, hm⟩
theorem markOrderS (v : Value) (xs : List Order) (k : Int) (w : World) (F : List Nat) (h : Sl w v xs F) (hnd : F.Nodup) (hfz : ∀ b ∈ F, Fz w b) (hk0 : 0 ≤ k) (hk1 : k + (GT.ct xs : Nat) ≤ 1000000000000) :
  Calls Tryz.prog 157 #[v, .int .i64 k] w fun e w' => e = .returned (.int .i64 (k + (GT.ct xs : Nat))) ∧ Sl w' v (GT.mkE xs k) F ∧ Mo F w w' := by
 obtain ⟨a, c, rfl, hl⟩ := Rs.form ⟨F, h⟩
 have H := zh h
 have HN := zh hnd
 have HZ := zh hfz
 clear h hnd hfz
 go_enter Tryz.func157, Tryz.ntmps157
 go_wp2
 go_loopw [1, 5] (fun kk i wr => ∃ (j : Nat) (r : Int), j ≤ xs.length ∧ i = .int .i64 j ∧ kk = .int .i64 r ∧ Hid (r = k + (ctK xs j : Nat)) ∧ Sl wr (.slice a xs.length c) (mkI xs k j) F ∧ Mo F w wr) (fun _ i _ => xs.length - (intOf i).toNat)
 case atStart => exact ⟨0, k, Nat.zero_le _, by go_num, by go_num, zh (by simp [ctK_zero]), H.out, Mo.refl _ _⟩
 case round =>
  obtain ⟨j, r, hj, rfl, rfl, hr, hs, hm⟩ := hrel
  clear H
  by_cases hlt : j < xs.length
  ·obtain ⟨b, o, x, F0, cs, rfl, hx, henc, hat, HF⟩ := Sl.focus (i := j) hs HN.out (by rw [mkI_length]; exact hlt)
   have hx1 : Hid (xs[j]? = some x) := zh (by rw [← mkI_at xs k]; exact hx.out)
   have hct := ctK_at hx1.out
   have hr2 := hr.out
   obtain ⟨rfl, g0, g1, g2, rfl⟩ := henc
   have hcx : GT.ct x = 3 := rfl
   obtain ⟨CS, TT, hbk⟩ := hm.2.2.2 b (HZ.out b HF.out.2.2.1)
   have hfz := hbk.fz
   have hd0 := hat 0 _ rfl
   have hd1 := hat 1 _ rfl
   have hd2 := hat 2 _ rfl
   have HM := zh hm
   have HS := zh hs
   have HA := zh hat
   clear hs hm hat hbk
   simp only [GT.sz, Nat.mul_one, Nat.add_zero] at hd0 hd1 hd2
   go_wp2
   go_roundw
   case rel =>
    refine ⟨j + 1, _, by omega, by go_num, rfl, zh (by have := ctK_succ hx1.out; omega), ?_, (Mo.set (Mo.set (Mo.set HM.out (by exact HF.out.2.2.1) _) (by exact HF.out.2.2.1) _) (by exact HF.out.2.2.1) _)⟩
    rw [← mkI_succ k hx1.out]
    have hput := HF.out.2.2.2.2 (putCells wr b (o + j * GT.sz Order) [.int .i64 (k + (ctK xs j : Nat)), .int .i64 (k + (ctK xs j : Nat) + 1), .int .i64 (k + (ctK xs j : Nat) + 1 + 1)]) (GT.mkE x (k + (ctK xs j : Nat))) _
     (fun k' hk hne _ => putCells_heap hne) (fun o' ho => putCells_out ho) (⟨rfl, rng_mk (n := k + (ctK xs j : Nat)) (by omega) (by omega), rng_mk (n := k + (ctK xs j : Nat) + 1) (by omega) (by omega), rng_mk (n := k + (ctK xs j : Nat) + 1 + 1) (by omega) (by omega), rfl⟩)
     (putCells_in (fun i hi => ⟨_, HA.out i _ (List.getElem?_eq_getElem (by simpa using hi))⟩))
    exact hput
   case measure => simp [intOf]; omega
  ·obtain rfl : j = xs.length := by omega
   have hr2 := hr.out
   rw [ctK_all] at hr2
   go_wp2
   go_ret
   exact ⟨ret_i hr2, by rw [← mkI_all]; exact hs, hm⟩
theorem markHealthS (v : Value) (xs : List Health) (k : Int) (w : World) (F : List Nat) (h : Sl w v xs F) (hnd : F.Nodup) (hfz : ∀ b ∈ F, Fz w b) (hk0 : 0 ≤ k) (hk1 : k + (GT.ct xs : Nat) ≤ 1000000000000) :
  Calls Tryz.prog 43 #[v, .int .i64 k] w fun e w' => e = .returned (.int .i64 (k + (GT.ct xs : Nat))) ∧ Sl w' v (GT.mkE xs k) F ∧ Mo F w w' := by
 obtain ⟨a, c, rfl, hl⟩ := Rs.form ⟨F, h⟩
 have H := zh h
 have HN := zh hnd
 have HZ := zh hfz
 clear h hnd hfz
 go_enter Tryz.func43, Tryz.ntmps43
 go_wp2
 go_loopw [1, 5] (fun kk i wr => ∃ (j : Nat) (r : Int), j ≤ xs.length ∧ i = .int .i64 j ∧ kk = .int .i64 r ∧ Hid (r = k + (ctK xs j : Nat)) ∧ Sl wr (.slice a xs.length c) (mkI xs k j) F ∧ Mo F w wr) (fun _ i _ => xs.length - (intOf i).toNat)
 case atStart => exact ⟨0, k, Nat.zero_le _, by go_num, by go_num, zh (by simp [ctK_zero]), H.out, Mo.refl _ _⟩
 case round =>
  obtain ⟨j, r, hj, rfl, rfl, hr, hs, hm⟩ := hrel
  clear H
  by_cases hlt : j < xs.length
  ·obtain ⟨b, o, x, F0, cs, rfl, hx, henc, hat, HF⟩ := Sl.focus (i := j) hs HN.out (by rw [mkI_length]; exact hlt)
   have hx1 : Hid (xs[j]? = some x) := zh (by rw [← mkI_at xs k]; exact hx.out)
   have hct := ctK_at hx1.out
   have hr2 := hr.out
   obtain ⟨rfl, g1, rfl⟩ := henc
   have hcx : GT.ct x = 2 := rfl
   obtain ⟨CS, TT, hbk⟩ := hm.2.2.2 b (HZ.out b HF.out.2.2.1)
   have hfz := hbk.fz
   have hd0 := hat 0 _ rfl
   have hd1 := hat 1 _ rfl
   have HM := zh hm
   have HS := zh hs
   have HA := zh hat
   clear hs hm hat hbk
   simp only [GT.sz, Nat.mul_one, Nat.add_zero] at hd0 hd1
   go_wp2
   go_roundw
   case rel =>
    refine ⟨j + 1, _, by omega, by go_num, rfl, zh (by have := ctK_succ hx1.out; omega), ?_, (Mo.set (Mo.set HM.out (by exact HF.out.2.2.1) _) (by exact HF.out.2.2.1) _)⟩
    rw [← mkI_succ k hx1.out]
    have hput := HF.out.2.2.2.2 (putCells wr b (o + j * GT.sz Health) [.bool ((k + (ctK xs j : Nat)) % 3 == 0), .int .i64 (k + (ctK xs j : Nat) + 1)]) (GT.mkE x (k + (ctK xs j : Nat))) _
     (fun k' hk hne _ => putCells_heap hne) (fun o' ho => putCells_out ho) (⟨rfl, rng_mk (n := k + (ctK xs j : Nat) + 1) (by omega) (by omega), rfl⟩)
     (putCells_in (fun i hi => ⟨_, HA.out i _ (List.getElem?_eq_getElem (by simpa using hi))⟩))
    exact hput
   case measure => simp [intOf]; omega
  ·obtain rfl : j = xs.length := by omega
   have hr2 := hr.out
   rw [ctK_all] at hr2
   go_wp2
   go_ret
   exact ⟨ret_i hr2, by rw [← mkI_all]; exact hs, hm⟩
theorem markOrderSS (v : Value) (xs : List (List Order)) (k : Int) (w : World) (F : List Nat) (h : Sl w v xs F) (hnd : F.Nodup) (hfz : ∀ b ∈ F, Fz w b) (hk0 : 0 ≤ k) (hk1 : k + (GT.ct xs : Nat) ≤ 1000000000000) :
  Calls Tryz.prog 91 #[v, .int .i64 k] w fun e w' => e = .returned (.int .i64 (k + (GT.ct xs : Nat))) ∧ Sl w' v (GT.mkE xs k) F ∧ Mo F w w' := by
 obtain ⟨a, c, rfl, hl⟩ := Rs.form ⟨F, h⟩
 have H := zh h
 have HN := zh hnd
 have HZ := zh hfz
 clear h hnd hfz
 go_enter Tryz.func91, Tryz.ntmps91
 go_wp2
 go_loopw [1, 5] (fun kk i wr => ∃ (j : Nat) (r : Int), j ≤ xs.length ∧ i = .int .i64 j ∧ kk = .int .i64 r ∧ Hid (r = k + (ctK xs j : Nat)) ∧ Sl wr (.slice a xs.length c) (mkI xs k j) F ∧ Mo F w wr) (fun _ i _ => xs.length - (intOf i).toNat)
 case atStart => exact ⟨0, k, Nat.zero_le _, by go_num, by go_num, zh (by simp [ctK_zero]), H.out, Mo.refl _ _⟩
 case round =>
  obtain ⟨j, r, hj, rfl, rfl, hr, hs, hm⟩ := hrel
  clear H
  by_cases hlt : j < xs.length
  ·obtain ⟨b, o, x, F0, cs, rfl, hx, henc, hat, HF⟩ := Sl.focus (i := j) hs HN.out (by rw [mkI_length]; exact hlt)
   have hx1 : Hid (xs[j]? = some x) := zh (by rw [← mkI_at xs k]; exact hx.out)
   have hct := ctK_at hx1.out
   have hr2 := hr.out
   obtain ⟨v0, rfl, h0⟩ := henc
   obtain ⟨a0, c0, rfl, hl0⟩ := Rs.form ⟨_, h0⟩
   have nd0 := HF.out.2.2.2.1
   have hin := HF.out.1
   have hzF := fun y hy => hm.2.2.2 y (HZ.out y (hin y hy))
   have N0 := zh (nd0)
   have Z0 : Hid (∀ y ∈ F0, Fz wr y) := zh (fun y hy => hzF y (by simp [hy]))
   have S0 := zh h0
   have nb0 : b ∉ F0 := fun hh => HF.out.2.1 (by simp [hh])
   clear nd0 hin hzF h0
   have HMF : Hid (Mo F0 wr wr) := zh (Mo.refl _ _)
   have fzb := hm.2.2.2 b (HZ.out b HF.out.2.2.1)
   obtain ⟨CS, TT, hbk⟩ := fzb
   have HBK := zh hbk
   have hfz := hbk.fz
   have HA := zh hat
   have HM := zh hm
   have hd0 := hat 0 _ rfl
   simp only [GT.sz, Nat.mul_one, Nat.add_zero] at hd0
   clear hs hm hat hbk
   go_wp2_with fail
   refine (markOrderS _ _ _ _ F0 S0.out N0.out Z0.out (by omega) (by omega)).mono ?_
   rintro e w1 ⟨rfl, hs0, hm0⟩
   replace S0 := zh hs0
   replace Z0 := zh (fun y hy => hm0.2.2.2 y (Z0.out y hy) : ∀ y ∈ F0, Fz w1 y)
   have hbb0 := hm0.2.2.1 b nb0
   have HB := zh hbb0
   replace HBK : Hid (Bk w1 b CS TT) := zh (by have h := HBK.out; unfold Bk at *; rw [hbb0]; exact h)
   replace HMF := zh (HMF.out.tr (hm0.wide (fun y hy => by simp [hy])))
   clear hfz
   have hfz := HBK.out.fz
   replace hd0 := (World.cell?_of_block (w := wr) (w' := w1) hbb0).trans hd0
   clear hs0 hm0 hbb0
   go_wp2
   go_roundw
   case rel =>
    refine ⟨j + 1, _, by omega, by go_num, rfl, zh (by have := ctK_succ hx1.out; omega), ?_, (HM.out.tr (HMF.out.wide HF.out.1))⟩
    rw [← mkI_succ k hx1.out]
    have hput := HF.out.2.2.2.2 (w1) (GT.mkE x (k + (ctK xs j : Nat))) [.slice a0 (x).length c0]
     (fun y hy hne hn => HMF.out.2.2.1 y hn) (fun o' ho => World.cell?_of_block HB.out)
     (⟨_, rfl, S0.out⟩)
     (by
      intro i u hi
      have hi2 : i < 1 := (List.getElem?_eq_some_iff.1 hi).1
      match i, hi2, hi with
      | 0, _, hi => cases hi; simpa [GT.sz] using hd0
      )
    exact hput
   case measure => simp [intOf]; omega
  ·obtain rfl : j = xs.length := by omega
   have hr2 := hr.out
   rw [ctK_all] at hr2
   go_wp2
   go_ret
   exact ⟨ret_i hr2, by rw [← mkI_all]; exact hs, hm⟩
theorem markPartS (v : Value) (xs : List Part) (k : Int) (w : World) (F : List Nat) (h : Sl w v xs F) (hnd : F.Nodup) (hfz : ∀ b ∈ F, Fz w b) (hk0 : 0 ≤ k) (hk1 : k + (GT.ct xs : Nat) ≤ 1000000000000) :
  Calls Tryz.prog 111 #[v, .int .i64 k] w fun e w' => e = .returned (.int .i64 (k + (GT.ct xs : Nat))) ∧ Sl w' v (GT.mkE xs k) F ∧ Mo F w w' := by
 obtain ⟨a, c, rfl, hl⟩ := Rs.form ⟨F, h⟩
 have H := zh h
 have HN := zh hnd
 have HZ := zh hfz
 clear h hnd hfz
 go_enter Tryz.func111, Tryz.ntmps111
 go_wp2
 go_loopw [1, 5] (fun kk i wr => ∃ (j : Nat) (r : Int), j ≤ xs.length ∧ i = .int .i64 j ∧ kk = .int .i64 r ∧ Hid (r = k + (ctK xs j : Nat)) ∧ Sl wr (.slice a xs.length c) (mkI xs k j) F ∧ Mo F w wr) (fun _ i _ => xs.length - (intOf i).toNat)
 case atStart => exact ⟨0, k, Nat.zero_le _, by go_num, by go_num, zh (by simp [ctK_zero]), H.out, Mo.refl _ _⟩
 case round =>
  obtain ⟨j, r, hj, rfl, rfl, hr, hs, hm⟩ := hrel
  clear H
  by_cases hlt : j < xs.length
  ·obtain ⟨b, o, x, F0, cs, rfl, hx, henc, hat, HF⟩ := Sl.focus (i := j) hs HN.out (by rw [mkI_length]; exact hlt)
   have hx1 : Hid (xs[j]? = some x) := zh (by rw [← mkI_at xs k]; exact hx.out)
   have hct := ctK_at hx1.out
   have hr2 := hr.out
   obtain ⟨v0, rfl, h0, g1⟩ := henc
   have hcx : GT.ct x = GT.ct x.Windows + GT.ct x.Cells := by rfl
   have hc_1 : GT.ct x.Cells = 1 := rfl
   obtain ⟨a0, c0, rfl, hl0⟩ := Rs.form ⟨_, h0⟩
   have nd0 := HF.out.2.2.2.1
   have hin := HF.out.1
   have hzF := fun y hy => hm.2.2.2 y (HZ.out y (hin y hy))
   have N0 := zh (nd0)
   have Z0 : Hid (∀ y ∈ F0, Fz wr y) := zh (fun y hy => hzF y (by simp [hy]))
   have S0 := zh h0
   have nb0 : b ∉ F0 := fun hh => HF.out.2.1 (by simp [hh])
   clear nd0 hin hzF h0
   have HMF : Hid (Mo F0 wr wr) := zh (Mo.refl _ _)
   have fzb := hm.2.2.2 b (HZ.out b HF.out.2.2.1)
   obtain ⟨CS, TT, hbk⟩ := fzb
   have HBK := zh hbk
   have hfz := hbk.fz
   have HA := zh hat
   have HM := zh hm
   have hd0 := hat 0 _ rfl
   have hd1 := hat 1 _ rfl
   simp only [GT.sz, Nat.mul_one, Nat.add_zero] at hd0 hd1
   clear hs hm hat hbk
   go_wp2_with fail
   refine (markWindowS _ _ _ _ F0 S0.out N0.out Z0.out (by omega) (by omega)).mono ?_
   rintro e w1 ⟨rfl, hs0, hm0⟩
   replace S0 := zh hs0
   replace Z0 := zh (fun y hy => hm0.2.2.2 y (Z0.out y hy) : ∀ y ∈ F0, Fz w1 y)
   have hbb0 := hm0.2.2.1 b nb0
   have HB := zh hbb0
   replace HBK : Hid (Bk w1 b CS TT) := zh (by have h := HBK.out; unfold Bk at *; rw [hbb0]; exact h)
   replace HMF := zh (HMF.out.tr (hm0.wide (fun y hy => by simp [hy])))
   clear hfz
   have hfz := HBK.out.fz
   replace hd0 := (World.cell?_of_block (w := wr) (w' := w1) hbb0).trans hd0
   replace hd1 := (World.cell?_of_block (w := wr) (w' := w1) hbb0).trans hd1
   clear hs0 hm0 hbb0
   go_wp2
   go_roundw
   case rel =>
    refine ⟨j + 1, _, by omega, by go_num, rfl, zh (by have := ctK_succ hx1.out; omega), ?_, (Mo.set (HM.out.tr (HMF.out.wide HF.out.1)) (by exact HF.out.2.2.1) _)⟩
    rw [← mkI_succ k hx1.out]
    have hput := HF.out.2.2.2.2 (putCells w1 b (o + j * GT.sz Part + 1) [.int .i64 (k + (ctK xs j : Nat) + (GT.ct x.Windows : Nat))]) (GT.mkE x (k + (ctK xs j : Nat))) [.slice a0 (x.Windows).length c0, .int .i64 (k + (ctK xs j : Nat) + (GT.ct x.Windows : Nat))]
     (fun y hy hne hn => (putCells_heap hne).trans (HMF.out.2.2.1 y hn)) (fun o' ho => (putCells_out (by simp only [GT.sz, List.length_cons, List.length_nil] at ho ⊢; omega)).trans (World.cell?_of_block HB.out))
     (⟨_, rfl, S0.out.keep (fun y hy => putCells_heap (b := b) (fun e => nb0 (e ▸ hy))), rng_mk (n := k + (ctK xs j : Nat) + (GT.ct x.Windows : Nat)) (by omega) (by omega)⟩)
     (by
      intro i u hi
      have hi2 : i < 2 := (List.getElem?_eq_some_iff.1 hi).1
      have hcells : At (putCells w1 b (o + j * GT.sz Part + 1) [.int .i64 (k + (ctK xs j : Nat) + (GT.ct x.Windows : Nat))]) b (o + j * GT.sz Part + 1) [.int .i64 (k + (ctK xs j : Nat) + (GT.ct x.Windows : Nat))] := putCells_in (by
       intro z hz
       have hz2 : z < 1 := hz
       match z, hz2 with
       | 0, _ => exact ⟨_, hd1⟩
       )
      match i, hi2, hi with
      | 0, _, hi => cases hi; exact (putCells_out (by left; omega)).trans hd0
      | 1, _, hi => cases hi; exact hcells 0 _ rfl
      )
    exact hput
   case measure => simp [intOf]; omega
  ·obtain rfl : j = xs.length := by omega
   have hr2 := hr.out
   rw [ctK_all] at hr2
   go_wp2
   go_ret
   exact ⟨ret_i hr2, by rw [← mkI_all]; exact hs, hm⟩
theorem markCoreS (v : Value) (xs : List Core) (k : Int) (w : World) (F : List Nat) (h : Sl w v xs F) (hnd : F.Nodup) (hfz : ∀ b ∈ F, Fz w b) (hk0 : 0 ≤ k) (hk1 : k + (GT.ct xs : Nat) ≤ 1000000000000) :
  Calls Tryz.prog 92 #[v, .int .i64 k] w fun e w' => e = .returned (.int .i64 (k + (GT.ct xs : Nat))) ∧ Sl w' v (GT.mkE xs k) F ∧ Mo F w w' := by
 obtain ⟨a, c, rfl, hl⟩ := Rs.form ⟨F, h⟩
 have H := zh h
 have HN := zh hnd
 have HZ := zh hfz
 clear h hnd hfz
 go_enter Tryz.func92, Tryz.ntmps92
 go_wp2
 go_loopw [1, 5] (fun kk i wr => ∃ (j : Nat) (r : Int), j ≤ xs.length ∧ i = .int .i64 j ∧ kk = .int .i64 r ∧ Hid (r = k + (ctK xs j : Nat)) ∧ Sl wr (.slice a xs.length c) (mkI xs k j) F ∧ Mo F w wr) (fun _ i _ => xs.length - (intOf i).toNat)
 case atStart => exact ⟨0, k, Nat.zero_le _, by go_num, by go_num, zh (by simp [ctK_zero]), H.out, Mo.refl _ _⟩
 case round =>
  obtain ⟨j, r, hj, rfl, rfl, hr, hs, hm⟩ := hrel
  clear H
  by_cases hlt : j < xs.length
  ·obtain ⟨b, o, x, F0, cs, rfl, hx, henc, hat, HF⟩ := Sl.focus (i := j) hs HN.out (by rw [mkI_length]; exact hlt)
   have hx1 : Hid (xs[j]? = some x) := zh (by rw [← mkI_at xs k]; exact hx.out)
   have hct := ctK_at hx1.out
   have hr2 := hr.out
   obtain ⟨v0, rfl, h0, g1⟩ := henc
   have hcx : GT.ct x = GT.ct x.Cells + GT.ct x.At + GT.ct x.Stopped := by rfl
   have hc_1 : GT.ct x.At = 1 := rfl
   have hc_2 : GT.ct x.Stopped = 1 := rfl
   obtain ⟨a0, c0, rfl, hl0⟩ := Rs.form ⟨_, h0⟩
   have nd0 := HF.out.2.2.2.1
   have hin := HF.out.1
   have hzF := fun y hy => hm.2.2.2 y (HZ.out y (hin y hy))
   have N0 := zh (nd0)
   have Z0 : Hid (∀ y ∈ F0, Fz wr y) := zh (fun y hy => hzF y (by simp [hy]))
   have S0 := zh h0
   have nb0 : b ∉ F0 := fun hh => HF.out.2.1 (by simp [hh])
   clear nd0 hin hzF h0
   have HMF : Hid (Mo F0 wr wr) := zh (Mo.refl _ _)
   have fzb := hm.2.2.2 b (HZ.out b HF.out.2.2.1)
   obtain ⟨CS, TT, hbk⟩ := fzb
   have HBK := zh hbk
   have hfz := hbk.fz
   have HA := zh hat
   have HM := zh hm
   have hd0 := hat 0 _ rfl
   have hd1 := hat 1 _ rfl
   have hd2 := hat 2 _ rfl
   simp only [GT.sz, Nat.mul_one, Nat.add_zero] at hd0 hd1 hd2
   clear hs hm hat hbk
   go_wp2_with fail
   refine (markIntS _ _ _ _ F0 S0.out N0.out Z0.out (by omega) (by omega)).mono ?_
   rintro e w1 ⟨rfl, hs0, hm0⟩
   replace S0 := zh hs0
   replace Z0 := zh (fun y hy => hm0.2.2.2 y (Z0.out y hy) : ∀ y ∈ F0, Fz w1 y)
   have hbb0 := hm0.2.2.1 b nb0
   have HB := zh hbb0
   replace HBK : Hid (Bk w1 b CS TT) := zh (by have h := HBK.out; unfold Bk at *; rw [hbb0]; exact h)
   replace HMF := zh (HMF.out.tr (hm0.wide (fun y hy => by simp [hy])))
   clear hfz
   have hfz := HBK.out.fz
   replace hd0 := (World.cell?_of_block (w := wr) (w' := w1) hbb0).trans hd0
   replace hd1 := (World.cell?_of_block (w := wr) (w' := w1) hbb0).trans hd1
   replace hd2 := (World.cell?_of_block (w := wr) (w' := w1) hbb0).trans hd2
   clear hs0 hm0 hbb0
   go_wp2
   go_roundw
   case rel =>
    refine ⟨j + 1, _, by omega, by go_num, rfl, zh (by have := ctK_succ hx1.out; omega), ?_, (Mo.set (Mo.set (HM.out.tr (HMF.out.wide HF.out.1)) (by exact HF.out.2.2.1) _) (by exact HF.out.2.2.1) _)⟩
    rw [← mkI_succ k hx1.out]
    have hput := HF.out.2.2.2.2 (putCells w1 b (o + j * GT.sz Core + 1) [.int .i64 (k + (ctK xs j : Nat) + (GT.ct x.Cells : Nat)), .bool ((k + (ctK xs j : Nat) + (GT.ct x.Cells : Nat) + 1) % 3 == 0)]) (GT.mkE x (k + (ctK xs j : Nat))) [.slice a0 (x.Cells).length c0, .int .i64 (k + (ctK xs j : Nat) + (GT.ct x.Cells : Nat)), .bool ((k + (ctK xs j : Nat) + (GT.ct x.Cells : Nat) + 1) % 3 == 0)]
     (fun y hy hne hn => (putCells_heap hne).trans (HMF.out.2.2.1 y hn)) (fun o' ho => (putCells_out (by simp only [GT.sz, List.length_cons, List.length_nil] at ho ⊢; omega)).trans (World.cell?_of_block HB.out))
     (⟨_, rfl, S0.out.keep (fun y hy => putCells_heap (b := b) (fun e => nb0 (e ▸ hy))), rng_mk (n := k + (ctK xs j : Nat) + (GT.ct x.Cells : Nat)) (by omega) (by omega)⟩)
     (by
      intro i u hi
      have hi2 : i < 3 := (List.getElem?_eq_some_iff.1 hi).1
      have hcells : At (putCells w1 b (o + j * GT.sz Core + 1) [.int .i64 (k + (ctK xs j : Nat) + (GT.ct x.Cells : Nat)), .bool ((k + (ctK xs j : Nat) + (GT.ct x.Cells : Nat) + 1) % 3 == 0)]) b (o + j * GT.sz Core + 1) [.int .i64 (k + (ctK xs j : Nat) + (GT.ct x.Cells : Nat)), .bool ((k + (ctK xs j : Nat) + (GT.ct x.Cells : Nat) + 1) % 3 == 0)] := putCells_in (by
       intro z hz
       have hz2 : z < 2 := hz
       match z, hz2 with
       | 0, _ => exact ⟨_, hd1⟩
       | 1, _ => exact ⟨_, hd2⟩
       )
      match i, hi2, hi with
      | 0, _, hi => cases hi; exact (putCells_out (by left; omega)).trans hd0
      | 1, _, hi => cases hi; exact hcells 0 _ rfl
      | 2, _, hi => cases hi; exact hcells 1 _ rfl
      )
    exact hput
   case measure => simp [intOf]; omega
  ·obtain rfl : j = xs.length := by omega
   have hr2 := hr.out
   rw [ctK_all] at hr2
   go_wp2
   go_ret
   exact ⟨ret_i hr2, by rw [← mkI_all]; exact hs, hm⟩
theorem markHoldS (v : Value) (xs : List Hold) (k : Int) (w : World) (F : List Nat) (h : Sl w v xs F) (hnd : F.Nodup) (hfz : ∀ b ∈ F, Fz w b) (hk0 : 0 ≤ k) (hk1 : k + (GT.ct xs : Nat) ≤ 1000000000000) :
  Calls Tryz.prog 93 #[v, .int .i64 k] w fun e w' => e = .returned (.int .i64 (k + (GT.ct xs : Nat))) ∧ Sl w' v (GT.mkE xs k) F ∧ Mo F w w' := by
 obtain ⟨a, c, rfl, hl⟩ := Rs.form ⟨F, h⟩
 have H := zh h
 have HN := zh hnd
 have HZ := zh hfz
 clear h hnd hfz
 go_enter Tryz.func93, Tryz.ntmps93
 go_wp2
 go_loopw [1, 5] (fun kk i wr => ∃ (j : Nat) (r : Int), j ≤ xs.length ∧ i = .int .i64 j ∧ kk = .int .i64 r ∧ Hid (r = k + (ctK xs j : Nat)) ∧ Sl wr (.slice a xs.length c) (mkI xs k j) F ∧ Mo F w wr) (fun _ i _ => xs.length - (intOf i).toNat)
 case atStart => exact ⟨0, k, Nat.zero_le _, by go_num, by go_num, zh (by simp [ctK_zero]), H.out, Mo.refl _ _⟩
 case round =>
  obtain ⟨j, r, hj, rfl, rfl, hr, hs, hm⟩ := hrel
  clear H
  by_cases hlt : j < xs.length
  ·obtain ⟨b, o, x, F0, cs, rfl, hx, henc, hat, HF⟩ := Sl.focus (i := j) hs HN.out (by rw [mkI_length]; exact hlt)
   have hx1 : Hid (xs[j]? = some x) := zh (by rw [← mkI_at xs k]; exact hx.out)
   have hct := ctK_at hx1.out
   have hr2 := hr.out
   obtain ⟨v0, rfl, h0⟩ := henc
   have hcx : GT.ct x = GT.ct x.Lst := by rfl
   obtain ⟨a0, c0, rfl, hl0⟩ := Rs.form ⟨_, h0⟩
   have nd0 := HF.out.2.2.2.1
   have hin := HF.out.1
   have hzF := fun y hy => hm.2.2.2 y (HZ.out y (hin y hy))
   have N0 := zh (nd0)
   have Z0 : Hid (∀ y ∈ F0, Fz wr y) := zh (fun y hy => hzF y (by simp [hy]))
   have S0 := zh h0
   have nb0 : b ∉ F0 := fun hh => HF.out.2.1 (by simp [hh])
   clear nd0 hin hzF h0
   have HMF : Hid (Mo F0 wr wr) := zh (Mo.refl _ _)
   have fzb := hm.2.2.2 b (HZ.out b HF.out.2.2.1)
   obtain ⟨CS, TT, hbk⟩ := fzb
   have HBK := zh hbk
   have hfz := hbk.fz
   have HA := zh hat
   have HM := zh hm
   have hd0 := hat 0 _ rfl
   simp only [GT.sz, Nat.mul_one, Nat.add_zero] at hd0
   clear hs hm hat hbk
   go_wp2_with fail
   refine (markIntS _ _ _ _ F0 S0.out N0.out Z0.out (by omega) (by omega)).mono ?_
   rintro e w1 ⟨rfl, hs0, hm0⟩
   replace S0 := zh hs0
   replace Z0 := zh (fun y hy => hm0.2.2.2 y (Z0.out y hy) : ∀ y ∈ F0, Fz w1 y)
   have hbb0 := hm0.2.2.1 b nb0
   have HB := zh hbb0
   replace HBK : Hid (Bk w1 b CS TT) := zh (by have h := HBK.out; unfold Bk at *; rw [hbb0]; exact h)
   replace HMF := zh (HMF.out.tr (hm0.wide (fun y hy => by simp [hy])))
   clear hfz
   have hfz := HBK.out.fz
   replace hd0 := (World.cell?_of_block (w := wr) (w' := w1) hbb0).trans hd0
   clear hs0 hm0 hbb0
   go_wp2
   go_roundw
   case rel =>
    refine ⟨j + 1, _, by omega, by go_num, rfl, zh (by have := ctK_succ hx1.out; omega), ?_, (HM.out.tr (HMF.out.wide HF.out.1))⟩
    rw [← mkI_succ k hx1.out]
    have hput := HF.out.2.2.2.2 (w1) (GT.mkE x (k + (ctK xs j : Nat))) [.slice a0 (x.Lst).length c0]
     (fun y hy hne hn => HMF.out.2.2.1 y hn) (fun o' ho => World.cell?_of_block HB.out)
     (⟨_, rfl, S0.out⟩)
     (by
      intro i u hi
      have hi2 : i < 1 := (List.getElem?_eq_some_iff.1 hi).1
      match i, hi2, hi with
      | 0, _, hi => cases hi; simpa [GT.sz] using hd0
      )
    exact hput
   case measure => simp [intOf]; omega
  ·obtain rfl : j = xs.length := by omega
   have hr2 := hr.out
   rw [ctK_all] at hr2
   go_wp2
   go_ret
   exact ⟨ret_i hr2, by rw [← mkI_all]; exact hs, hm⟩
end Sk
