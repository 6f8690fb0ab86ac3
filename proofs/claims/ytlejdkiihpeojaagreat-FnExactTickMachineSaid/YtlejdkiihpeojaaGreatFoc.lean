/- Contracts of functions of the given program, and lemmas for them: each theorem states the condition under which it holds. -/
import Derived.Test.YtlejdkiihpeojaaGreatChecked
import Derived.Test.YtlejdkiihpeojaaGreatChan
namespace Sk
open Go Go.Proofs Go.RowKit
set_option maxHeartbeats 400000
set_option maxRecDepth 100000
set_option linter.unusedVariables false
set_option linter.unusedSimpArgs false
theorem rng_mk {n : Int} (h1 : 0 ≤ n) (h2 : n ≤ 1000000000000) : rng n := ⟨by omega, by omega⟩
/-- Only the blocks of F may have turned. -/
def Mo (F : List Nat) (w w' : World) : Prop :=
  w'.heap.size = w.heap.size ∧ Ext {w with heap := #[]} {w' with heap := #[]} ∧ (∀ b, b ∉ F → w'.heap[b]? = w.heap[b]?) ∧ ∀ b, Fz w b → Fz w' b
theorem Mo.refl (F : List Nat) (w : World) : Mo F w w := ⟨rfl, Ext.refl _, fun _ _ => rfl, fun _ h => h⟩
theorem Mo.tr {F : List Nat} {a b c : World} (h : Mo F a b) (k : Mo F b c) : Mo F a c :=
  ⟨k.1.trans h.1, h.2.1.tr k.2.1, fun x hx => (k.2.2.1 x hx).trans (h.2.2.1 x hx), fun x hx => k.2.2.2 x (h.2.2.2 x hx)⟩
theorem Mo.wide {F G : List Nat} {a b : World} (h : Mo F a b) (hF : ∀ x ∈ F, x ∈ G) : Mo G a b :=
  ⟨h.1, h.2.1, fun x hx => h.2.2.1 x (fun hm => hx (hF x hm)), h.2.2.2⟩
theorem Mo.set {F : List Nat} {a b : World} (h : Mo F a b) {p : Addr} (hp : p.block ∈ F) (u : Value) : Mo F a (b.setCell p u) := by
  refine ⟨by rw [← h.1]; simp, ?_, fun x hx => ?_, fun x hx => (h.2.2.2 x hx).set p u⟩
  · obtain ⟨h1, h2, h3, h4, h5⟩ := h.2.1
    exact ⟨h1, h2, h3, h4, h5⟩
  · rw [heap_set_ne (fun e => hx (by rw [e]; exact hp))]; exact h.2.2.1 x hx
/-- New blocks apart, only the blocks of F may have turned. -/
def Mx (F : List Nat) (w w' : World) : Prop :=
  Ext {w with heap := #[]} {w' with heap := #[]} ∧ w.heap.size ≤ w'.heap.size ∧ (∀ b, b < w.heap.size → b ∉ F → w'.heap[b]? = w.heap[b]?) ∧ ∀ b, Fz w b → Fz w' b
theorem Mx.ofExt {F : List Nat} {w w' : World} (h : Ext w w') : Mx F w w' :=
  ⟨⟨h.os, h.tape, h.output, Nat.le_refl _, fun b hb => by cases hb⟩, h.sz, fun b hb _ => h.block b hb, fun b hb => hb.ext h⟩
theorem Mx.ofMo {F : List Nat} {w w' : World} (h : Mo F w w') : Mx F w w' := ⟨h.2.1, Nat.le_of_eq h.1.symm, fun b _ hn => h.2.2.1 b hn, h.2.2.2⟩
theorem Mx.tr {F : List Nat} {a b c : World} (h : Mx F a b) (k : Mx F b c) : Mx F a c :=
  ⟨h.1.tr k.1, Nat.le_trans h.2.1 k.2.1, fun x hx hn => (k.2.2.1 x (Nat.lt_of_lt_of_le hx h.2.1) hn).trans (h.2.2.1 x hx hn), fun x hx => k.2.2.2 x (h.2.2.2 x hx)⟩
theorem Mx.wide {F G : List Nat} {a b : World} (h : Mx F a b) (hF : ∀ x ∈ F, x ∈ G) : Mx G a b :=
  ⟨h.1, h.2.1, fun x hx hn => h.2.2.1 x hx (fun hm => hn (hF x hm)), h.2.2.2⟩
theorem Mx.ext {F : List Nat} {W a b : World} (h : Mx F a b) (he : Ext W a) (hF : ∀ x ∈ F, W.heap.size ≤ x) : Ext W b := by
  obtain ⟨h1, h2, h3, h4, h5⟩ := he
  obtain ⟨k1, k2, k3, k4, k5⟩ := h.1
  exact ⟨k1.trans h1, k2.trans h2, k3.trans h3, Nat.le_trans h4 h.2.1, fun b hb => (h.2.2.1 b (Nat.lt_of_lt_of_le hb h4) (fun hm => by have := hF b hm; omega)).trans (h5 b hb)⟩
/-- What lies elsewhere stays. -/
theorem Mx.enc {α : Type} [GT α] {F G : List Nat} {a b : World} {cs : List Value} {x : α} (h : Mx F a b) (k : GT.enc a cs x G) (hd : ∀ y, y ∈ G → y ∈ F → False) : GT.enc b cs x G :=
  GT.keep k fun y hy => h.2.2.1 y (GT.inh k y hy) (fun hf => hd y hy hf)
theorem Mx.sl {α : Type} [GT α] {F G : List Nat} {a b : World} {v : Value} {x : List α} (h : Mx F a b) (k : Sl a v x G) (hd : ∀ y, y ∈ G → y ∈ F → False) : Sl b v x G :=
  k.keep fun y hy => h.2.2.1 y (k.inh y hy) (fun hf => hd y hy hf)
theorem Mx.bk {F : List Nat} {a b : World} {p : Nat} {cs : List Value} {T : TypeId} (h : Mx F a b) (k : Bk a p cs T) (hp : p ∉ F) : Bk b p cs T := by
  have := h.2.2.1 p k.lt hp
  unfold Bk at *; rw [this]; exact k
/-- One element of a slice of one's own, which may be turned. -/
theorem Sl.focus {α : Type} [GT α] {w : World} {a : Option Addr} {n c i : Nat} {xs : List α} {F : List Nat} (h : Sl w (.slice a n c) xs F) (hnd : F.Nodup) (hi : i < xs.length) :
    ∃ b o x F0 cs, a = some ⟨b, o, none⟩ ∧ Hid (xs[i]? = some x) ∧ GT.enc w cs x F0 ∧ At w b (o + i * GT.sz α) cs ∧ Hid ((∀ k ∈ F0, k ∈ F) ∧ b ∉ F0 ∧ b ∈ F ∧ F0.Nodup ∧
      ∀ w' x' cs', (∀ k ∈ F, k ≠ b → k ∉ F0 → w'.heap[k]? = w.heap[k]?) → (∀ o', (o' < o + i * GT.sz α ∨ o + i * GT.sz α + GT.sz α ≤ o') → w'.cell? ⟨b, o', none⟩ = w.cell? ⟨b, o', none⟩) →
        GT.enc w' cs' x' F0 → At w' b (o + i * GT.sz α) cs' → Sl w' (.slice a n c) (xs.set i x') F) := by
  obtain ⟨a', c', he, hl, hc, ⟨rfl, rfl⟩ | ⟨hne, b, o, F', rfl, rfl, hr⟩⟩ := h
  · cases hi
  cases he
  have hsp : xs = xs.take i ++ xs[i] :: xs.drop (i + 1) := by
    rw [List.getElem_cons_drop, List.take_append_drop]
  have hr' := hr
  rw [hsp] at hr'
  obtain ⟨F1, F2, rfl, hr1, hr2⟩ := hr'.split
  have hlen : (xs.take i).length = i := by rw [List.length_take]; omega
  rw [hlen] at hr2
  obtain ⟨cs, F0, F3, henc, hat, rfl, hr3⟩ := hr2
  have hndc := List.nodup_cons.1 hnd
  have hb := hndc.1
  simp only [List.mem_append] at hb
  have hnd2 := hndc.2
  simp only [List.nodup_append, List.mem_append] at hnd2
  obtain ⟨n1, ⟨n0, n3, n03⟩, n1x⟩ := hnd2
  refine ⟨b, o, xs[i], F0, cs, rfl, by unfold Hid; simp [hi], henc, hat, Lib.hid ⟨fun k hk => by simp [hk], fun hk => hb (.inr (.inl hk)), by simp, n0, ?_⟩⟩
  intro w' x' cs' hk hcell henc' hat'
  have hlc := GT.len henc
  have hset : xs.set i x' = xs.take i ++ x' :: xs.drop (i + 1) := by
    rw [List.set_eq_take_append_cons_drop, if_pos hi]
  refine ⟨some ⟨b, o, none⟩, c, by simp, by simpa using hl, hc, .inr ⟨set_ne_nil hne, b, o, _, rfl, rfl, ?_⟩⟩
  rw [hset]
  refine Row.append (hr1.move (fun k hk' => hk k (by simp [hk']) (fun e => hb (.inl (e ▸ hk'))) (fun h0 => n1x k hk' k (.inl h0) rfl)) fun j u hj hu => ?_) ?_
  · rw [hlen] at hj
    rw [hcell _ (by left; omega)]; exact hu
  · rw [hlen]
    refine ⟨cs', F0, F3, henc', hat', rfl, hr3.move (fun k hk' => hk k (by simp [hk']) (fun e => hb (.inr (.inr (e ▸ hk')))) (fun h0 => n03 k h0 k hk' rfl)) fun j u hj hu => ?_⟩
    rw [hcell _ (by right; omega)]; exact hu
theorem mkL_append {α : Type} (mk : α → Int → α) (ct : α → Nat) (xs ys : List α) : ∀ k, mkL mk ct (xs ++ ys) k = mkL mk ct xs k ++ mkL mk ct ys (k + ((xs.map ct).sum : Nat)) := by
  induction xs with
  | nil => intro k; simp [mkL]
  | cons x xs ih =>
    intro k
    simp only [List.cons_append, mkL, ih, List.map_cons, List.sum_cons]
    congr 3
    omega
/-- How many numbers the first elements hold. -/
def ctK {α : Type} [GT α] (xs : List α) (k : Nat) : Nat := ((xs.take k).map GT.ct).sum
theorem ctK_zero {α : Type} [GT α] (xs : List α) : ctK xs 0 = 0 := rfl
theorem ctK_succ {α : Type} [GT α] {xs : List α} {k : Nat} {x : α} (hk : xs[k]? = some x) : ctK xs (k + 1) = ctK xs k + GT.ct x := by
  unfold ctK; rw [take_snoc hk]; simp
theorem ctK_all {α : Type} [GT α] (xs : List α) : ctK xs xs.length = GT.ct xs := by unfold ctK; rw [List.take_length]; rfl
theorem ctK_le {α : Type} [GT α] (xs : List α) (k : Nat) : ctK xs k ≤ GT.ct xs := by
  show ((xs.take k).map GT.ct).sum ≤ (xs.map GT.ct).sum
  have : (xs.map GT.ct).sum = ((xs.take k).map GT.ct).sum + ((xs.drop k).map GT.ct).sum := by
    rw [← List.sum_append, ← List.map_append, List.take_append_drop]
  omega
theorem ctK_at {α : Type} [GT α] {xs : List α} {k : Nat} {x : α} (hk : xs[k]? = some x) : ctK xs k + GT.ct x ≤ GT.ct xs := by
  rw [← ctK_succ hk]; exact ctK_le _ _
theorem mk_at {α : Type} [GT α] {xs : List α} {k : Int} (h : GT.mkE xs k = xs) {i : Nat} {x : α} (hi : xs[i]? = some x) : GT.mkE x (k + (ctK xs i : Nat)) = x := by
  have hsp : xs = xs.take i ++ x :: xs.drop (i + 1) := by
    obtain ⟨hl, rfl⟩ := List.getElem?_eq_some_iff.1 hi
    rw [List.getElem_cons_drop, List.take_append_drop]
  have h1 : mkL GT.mkE GT.ct xs k = xs := h
  have h2 : mkL GT.mkE GT.ct xs k = mkL GT.mkE GT.ct (xs.take i) k ++ GT.mkE x (k + (ctK xs i : Nat)) :: mkL GT.mkE GT.ct (xs.drop (i + 1)) (k + (ctK xs i : Nat) + (GT.ct x : Nat)) := by
    rw [show mkL GT.mkE GT.ct xs k = mkL GT.mkE GT.ct (xs.take i ++ x :: xs.drop (i + 1)) k from by rw [← hsp], mkL_append]
    rfl
  have h3 : (mkL GT.mkE GT.ct xs k)[i]? = some (GT.mkE x (k + (ctK xs i : Nat))) := by
    have hlen : (mkL (GT.mkE (α := α)) GT.ct (xs.take i) k).length = i := by
      rw [mkL_length, List.length_take]; have := lt_of_some hi; omega
    rw [h2, List.getElem?_append_right (by omega), hlen]; simp
  rw [h1, hi] at h3
  exact (Option.some.inj h3).symm
/-- The list in which the first i elements are marked. -/
def mkI {α : Type} [GT α] (xs : List α) (k : Int) (i : Nat) : List α := GT.mkE (xs.take i) k ++ xs.drop i
theorem mkI_all {α : Type} [GT α] (xs : List α) (k : Int) : mkI xs k xs.length = GT.mkE xs k := by unfold mkI; simp
theorem mkI_length {α : Type} [GT α] (xs : List α) (k : Int) (i : Nat) : (mkI xs k i).length = xs.length := by
  show (mkL GT.mkE GT.ct (xs.take i) k ++ xs.drop i).length = _
  rw [List.length_append, mkL_length, ← List.length_append, List.take_append_drop]
theorem mkI_at {α : Type} [GT α] (xs : List α) (k : Int) {i : Nat} : (mkI xs k i)[i]? = xs[i]? := by
  show (mkL GT.mkE GT.ct (xs.take i) k ++ xs.drop i)[i]? = _
  by_cases hi : i < xs.length
  · have hlen : (mkL (GT.mkE (α := α)) GT.ct (xs.take i) k).length = i := by rw [mkL_length, List.length_take]; omega
    rw [List.getElem?_append_right (by omega), hlen]; simp
  · have hz : (mkL GT.mkE GT.ct (xs.take i) k ++ xs.drop i).length = xs.length := mkI_length xs k i
    rw [List.getElem?_eq_none (by omega), List.getElem?_eq_none (by omega)]
theorem mkI_succ {α : Type} [GT α] {xs : List α} (k : Int) {i : Nat} {x : α} (hi : xs[i]? = some x) : (mkI xs k i).set i (GT.mkE x (k + (ctK xs i : Nat))) = mkI xs k (i + 1) := by
  show (mkL GT.mkE GT.ct (xs.take i) k ++ xs.drop i).set i _ = mkL GT.mkE GT.ct (xs.take (i + 1)) k ++ xs.drop (i + 1)
  have hl := lt_of_some hi
  have hlen : (mkL (GT.mkE (α := α)) GT.ct (xs.take i) k).length = i := by rw [mkL_length, List.length_take]; omega
  obtain ⟨_, hx⟩ := List.getElem?_eq_some_iff.1 hi
  have hd : xs.drop i = x :: xs.drop (i + 1) := by rw [← hx, List.getElem_cons_drop]
  rw [List.set_append_right _ _ (by omega), hlen, Nat.sub_self, hd, List.set_cons_zero, take_snoc hi, mkL_append]
  show _ = (mkL GT.mkE GT.ct (xs.take i) k ++ [GT.mkE x (k + (ctK xs i : Nat))]) ++ _
  simp
end Sk
namespace Sk
open Go Go.Proofs Go.RowKit
set_option maxHeartbeats 400000
set_option maxRecDepth 100000
set_option linter.unusedVariables false
set_option linter.unusedSimpArgs false
theorem markIntS (v : Value) (xs : List Int) (k : Int) (w : World) (F : List Nat) (h : Sl w v xs F) (hnd : F.Nodup) (hfz : ∀ b ∈ F, Fz w b) (hk0 : 0 ≤ k) (hk1 : k + (GT.ct xs : Nat) ≤ 1000000000000) :
    Calls Tryz.prog 23 #[v, .int .i64 k] w fun e w' => e = .returned (.int .i64 (k + (GT.ct xs : Nat))) ∧ Sl w' v (GT.mkE xs k) F ∧ Mo F w w' := by
  obtain ⟨a, c, rfl, hl⟩ := Rs.form ⟨F, h⟩
  have H := Lib.hid h
  have HN := Lib.hid hnd
  have HZ := Lib.hid hfz
  clear h hnd hfz
  go_enter Tryz.func23, Tryz.ntmps23
  go_wp2
  go_loopw [1, 5] (fun kk i wr => ∃ (j : Nat) (r : Int), j ≤ xs.length ∧ i = .int .i64 j ∧ kk = .int .i64 r ∧ Hid (r = k + (ctK xs j : Nat)) ∧ Sl wr (.slice a xs.length c) (mkI xs k j) F ∧ Mo F w wr) (fun _ i _ => xs.length - (intOf i).toNat)
  case atStart => exact ⟨0, k, Nat.zero_le _, by go_num, by go_num, Lib.hid (by simp [ctK_zero]), H.out, Mo.refl _ _⟩
  case round =>
    obtain ⟨j, r, hj, rfl, rfl, hr, hs, hm⟩ := hrel
    clear H
    by_cases hlt : j < xs.length
    · obtain ⟨b, o, x, F0, cs, rfl, hx, henc, hat, HF⟩ := Sl.focus (i := j) hs HN.out (by rw [mkI_length]; exact hlt)
      have hx1 : Hid (xs[j]? = some x) := Lib.hid (by rw [← mkI_at xs k]; exact hx.out)
      have hct := ctK_at hx1.out
      have hr2 := hr.out
      obtain ⟨rfl, g0, rfl⟩ := henc
      have hcx : GT.ct x = 1 := rfl
      obtain ⟨CS, TT, hbk⟩ := hm.2.2.2 b (HZ.out b HF.out.2.2.1)
      have hfz := hbk.fz
      have hd0 := hat 0 _ rfl
      have HM := Lib.hid hm
      have HS := Lib.hid hs
      have HA := Lib.hid hat
      clear hs hm hat hbk
      simp only [GT.sz, Nat.mul_one, Nat.add_zero] at hd0
      go_wp2
      go_roundw
      case rel =>
        refine ⟨j + 1, _, by omega, by go_num, rfl, Lib.hid (by have := ctK_succ hx1.out; omega), ?_, (Mo.set HM.out (by exact HF.out.2.2.1) _)⟩
        rw [← mkI_succ k hx1.out]
        have hput := HF.out.2.2.2.2 (putCells wr b (o + j * GT.sz Int) [.int .i64 (k + (ctK xs j : Nat))]) (GT.mkE x (k + (ctK xs j : Nat))) _
          (fun k' hk hne _ => putCells_heap hne) (fun o' ho => putCells_out ho) (⟨rfl, rng_mk (n := k + (ctK xs j : Nat)) (by omega) (by omega), rfl⟩)
          (putCells_in (fun i hi => ⟨_, HA.out i _ (List.getElem?_eq_getElem (by simpa using hi))⟩))
        simpa [putCells, GT.sz] using hput
      case measure => simp [intOf]; omega
    · obtain rfl : j = xs.length := by omega
      have hr2 := hr.out
      rw [ctK_all] at hr2
      go_wp2
      go_ret
      exact ⟨ret_i hr2, by rw [← mkI_all]; exact hs, hm⟩
theorem markWindowS (v : Value) (xs : List Window) (k : Int) (w : World) (F : List Nat) (h : Sl w v xs F) (hnd : F.Nodup) (hfz : ∀ b ∈ F, Fz w b) (hk0 : 0 ≤ k) (hk1 : k + (GT.ct xs : Nat) ≤ 1000000000000) :
    Calls Tryz.prog 164 #[v, .int .i64 k] w fun e w' => e = .returned (.int .i64 (k + (GT.ct xs : Nat))) ∧ Sl w' v (GT.mkE xs k) F ∧ Mo F w w' := by
  obtain ⟨a, c, rfl, hl⟩ := Rs.form ⟨F, h⟩
  have H := Lib.hid h
  have HN := Lib.hid hnd
  have HZ := Lib.hid hfz
  clear h hnd hfz
  go_enter Tryz.func164, Tryz.ntmps164
  go_wp2
  go_loopw [1, 5] (fun kk i wr => ∃ (j : Nat) (r : Int), j ≤ xs.length ∧ i = .int .i64 j ∧ kk = .int .i64 r ∧ Hid (r = k + (ctK xs j : Nat)) ∧ Sl wr (.slice a xs.length c) (mkI xs k j) F ∧ Mo F w wr) (fun _ i _ => xs.length - (intOf i).toNat)
  case atStart => exact ⟨0, k, Nat.zero_le _, by go_num, by go_num, Lib.hid (by simp [ctK_zero]), H.out, Mo.refl _ _⟩
  case round =>
    obtain ⟨j, r, hj, rfl, rfl, hr, hs, hm⟩ := hrel
    clear H
    by_cases hlt : j < xs.length
    · obtain ⟨b, o, x, F0, cs, rfl, hx, henc, hat, HF⟩ := Sl.focus (i := j) hs HN.out (by rw [mkI_length]; exact hlt)
      have hx1 : Hid (xs[j]? = some x) := Lib.hid (by rw [← mkI_at xs k]; exact hx.out)
      have hct := ctK_at hx1.out
      have hr2 := hr.out
      obtain ⟨rfl, g0, g1, rfl⟩ := henc
      have hcx : GT.ct x = 3 := rfl
      obtain ⟨CS, TT, hbk⟩ := hm.2.2.2 b (HZ.out b HF.out.2.2.1)
      have hfz := hbk.fz
      have hd0 := hat 0 _ rfl
      have hd1 := hat 1 _ rfl
      have hd2 := hat 2 _ rfl
      have HM := Lib.hid hm
      have HS := Lib.hid hs
      have HA := Lib.hid hat
      clear hs hm hat hbk
      simp only [GT.sz, Nat.mul_one, Nat.add_zero] at hd0 hd1 hd2
      go_wp2
      go_roundw
      case rel =>
        refine ⟨j + 1, _, by omega, by go_num, rfl, Lib.hid (by have := ctK_succ hx1.out; omega), ?_, (Mo.set (Mo.set (Mo.set HM.out (by exact HF.out.2.2.1) _) (by exact HF.out.2.2.1) _) (by exact HF.out.2.2.1) _)⟩
        rw [← mkI_succ k hx1.out]
        have hput := HF.out.2.2.2.2 (putCells wr b (o + j * GT.sz Window) [.int .i64 (k + (ctK xs j : Nat)), .int .i64 (k + (ctK xs j : Nat) + 1), .bool ((k + (ctK xs j : Nat) + 1 + 1) % 3 == 0)]) (GT.mkE x (k + (ctK xs j : Nat))) _
          (fun k' hk hne _ => putCells_heap hne) (fun o' ho => putCells_out ho) (⟨rfl, rng_mk (n := k + (ctK xs j : Nat)) (by omega) (by omega), rng_mk (n := k + (ctK xs j : Nat) + 1) (by omega) (by omega), rfl⟩)
          (putCells_in (fun i hi => ⟨_, HA.out i _ (List.getElem?_eq_getElem (by simpa using hi))⟩))
        exact hput
      case measure => simp [intOf]; omega
    · obtain rfl : j = xs.length := by omega
      have hr2 := hr.out
      rw [ctK_all] at hr2
      go_wp2
      go_ret
      exact ⟨ret_i hr2, by rw [← mkI_all]; exact hs, hm⟩
theorem markChannelS (v : Value) (xs : List Channel) (k : Int) (w : World) (F : List Nat) (h : Sl w v xs F) (hnd : F.Nodup) (hfz : ∀ b ∈ F, Fz w b) (hk0 : 0 ≤ k) (hk1 : k + (GT.ct xs : Nat) ≤ 1000000000000) :
    Calls Tryz.prog 115 #[v, .int .i64 k] w fun e w' => e = .returned (.int .i64 (k + (GT.ct xs : Nat))) ∧ Sl w' v (GT.mkE xs k) F ∧ Mo F w w' := by
  obtain ⟨a, c, rfl, hl⟩ := Rs.form ⟨F, h⟩
  have H := Lib.hid h
  have HN := Lib.hid hnd
  have HZ := Lib.hid hfz
  clear h hnd hfz
  go_enter Tryz.func115, Tryz.ntmps115
  go_wp2
  go_loopw [1, 5] (fun kk i wr => ∃ (j : Nat) (r : Int), j ≤ xs.length ∧ i = .int .i64 j ∧ kk = .int .i64 r ∧ Hid (r = k + (ctK xs j : Nat)) ∧ Sl wr (.slice a xs.length c) (mkI xs k j) F ∧ Mo F w wr) (fun _ i _ => xs.length - (intOf i).toNat)
  case atStart => exact ⟨0, k, Nat.zero_le _, by go_num, by go_num, Lib.hid (by simp [ctK_zero]), H.out, Mo.refl _ _⟩
  case round =>
    obtain ⟨j, r, hj, rfl, rfl, hr, hs, hm⟩ := hrel
    clear H
    by_cases hlt : j < xs.length
    · obtain ⟨b, o, x, F0, cs, rfl, hx, henc, hat, HF⟩ := Sl.focus (i := j) hs HN.out (by rw [mkI_length]; exact hlt)
      have hx1 : Hid (xs[j]? = some x) := Lib.hid (by rw [← mkI_at xs k]; exact hx.out)
      have hct := ctK_at hx1.out
      have hr2 := hr.out
      obtain ⟨rfl, g0, g1, g2, g3, rfl⟩ := henc
      have hcx : GT.ct x = 4 := rfl
      obtain ⟨CS, TT, hbk⟩ := hm.2.2.2 b (HZ.out b HF.out.2.2.1)
      have hfz := hbk.fz
      have hd0 := hat 0 _ rfl
      have hd1 := hat 1 _ rfl
      have hd2 := hat 2 _ rfl
      have hd3 := hat 3 _ rfl
      have HM := Lib.hid hm
      have HS := Lib.hid hs
      have HA := Lib.hid hat
      clear hs hm hat hbk
      simp only [GT.sz, Nat.mul_one, Nat.add_zero] at hd0 hd1 hd2 hd3
      go_wp2
      go_roundw
      case rel =>
        refine ⟨j + 1, _, by omega, by go_num, rfl, Lib.hid (by have := ctK_succ hx1.out; omega), ?_, (Mo.set (Mo.set (Mo.set (Mo.set HM.out (by exact HF.out.2.2.1) _) (by exact HF.out.2.2.1) _) (by exact HF.out.2.2.1) _) (by exact HF.out.2.2.1) _)⟩
        rw [← mkI_succ k hx1.out]
        have hput := HF.out.2.2.2.2 (putCells wr b (o + j * GT.sz Channel) [.int .i64 (k + (ctK xs j : Nat)), .int .i64 (k + (ctK xs j : Nat) + 1), .int .i64 (k + (ctK xs j : Nat) + 1 + 1), .int .i64 (k + (ctK xs j : Nat) + 1 + 1 + 1)]) (GT.mkE x (k + (ctK xs j : Nat))) _
          (fun k' hk hne _ => putCells_heap hne) (fun o' ho => putCells_out ho) (⟨rfl, rng_mk (n := k + (ctK xs j : Nat)) (by omega) (by omega), rng_mk (n := k + (ctK xs j : Nat) + 1) (by omega) (by omega), rng_mk (n := k + (ctK xs j : Nat) + 1 + 1) (by omega) (by omega), rng_mk (n := k + (ctK xs j : Nat) + 1 + 1 + 1) (by omega) (by omega), rfl⟩)
          (putCells_in (fun i hi => ⟨_, HA.out i _ (List.getElem?_eq_getElem (by simpa using hi))⟩))
        exact hput
      case measure => simp [intOf]; omega
    · obtain rfl : j = xs.length := by omega
      have hr2 := hr.out
      rw [ctK_all] at hr2
      go_wp2
      go_ret
      exact ⟨ret_i hr2, by rw [← mkI_all]; exact hs, hm⟩
theorem markSlotS (v : Value) (xs : List Slot) (k : Int) (w : World) (F : List Nat) (h : Sl w v xs F) (hnd : F.Nodup) (hfz : ∀ b ∈ F, Fz w b) (hk0 : 0 ≤ k) (hk1 : k + (GT.ct xs : Nat) ≤ 1000000000000) :
    Calls Tryz.prog 116 #[v, .int .i64 k] w fun e w' => e = .returned (.int .i64 (k + (GT.ct xs : Nat))) ∧ Sl w' v (GT.mkE xs k) F ∧ Mo F w w' := by
  obtain ⟨a, c, rfl, hl⟩ := Rs.form ⟨F, h⟩
  have H := Lib.hid h
  have HN := Lib.hid hnd
  have HZ := Lib.hid hfz
  clear h hnd hfz
  go_enter Tryz.func116, Tryz.ntmps116
  go_wp2
  go_loopw [1, 5] (fun kk i wr => ∃ (j : Nat) (r : Int), j ≤ xs.length ∧ i = .int .i64 j ∧ kk = .int .i64 r ∧ Hid (r = k + (ctK xs j : Nat)) ∧ Sl wr (.slice a xs.length c) (mkI xs k j) F ∧ Mo F w wr) (fun _ i _ => xs.length - (intOf i).toNat)
  case atStart => exact ⟨0, k, Nat.zero_le _, by go_num, by go_num, Lib.hid (by simp [ctK_zero]), H.out, Mo.refl _ _⟩
  case round =>
    obtain ⟨j, r, hj, rfl, rfl, hr, hs, hm⟩ := hrel
    clear H
    by_cases hlt : j < xs.length
    · obtain ⟨b, o, x, F0, cs, rfl, hx, henc, hat, HF⟩ := Sl.focus (i := j) hs HN.out (by rw [mkI_length]; exact hlt)
      have hx1 : Hid (xs[j]? = some x) := Lib.hid (by rw [← mkI_at xs k]; exact hx.out)
      have hct := ctK_at hx1.out
      have hr2 := hr.out
      obtain ⟨rfl, g0, g1, rfl⟩ := henc
      have hcx : GT.ct x = 2 := rfl
      obtain ⟨CS, TT, hbk⟩ := hm.2.2.2 b (HZ.out b HF.out.2.2.1)
      have hfz := hbk.fz
      have hd0 := hat 0 _ rfl
      have hd1 := hat 1 _ rfl
      have HM := Lib.hid hm
      have HS := Lib.hid hs
      have HA := Lib.hid hat
      clear hs hm hat hbk
      simp only [GT.sz, Nat.mul_one, Nat.add_zero] at hd0 hd1
      go_wp2
      go_roundw
      case rel =>
        refine ⟨j + 1, _, by omega, by go_num, rfl, Lib.hid (by have := ctK_succ hx1.out; omega), ?_, (Mo.set (Mo.set HM.out (by exact HF.out.2.2.1) _) (by exact HF.out.2.2.1) _)⟩
        rw [← mkI_succ k hx1.out]
        have hput := HF.out.2.2.2.2 (putCells wr b (o + j * GT.sz Slot) [.int .i64 (k + (ctK xs j : Nat)), .int .i64 (k + (ctK xs j : Nat) + 1)]) (GT.mkE x (k + (ctK xs j : Nat))) _
          (fun k' hk hne _ => putCells_heap hne) (fun o' ho => putCells_out ho) (⟨rfl, rng_mk (n := k + (ctK xs j : Nat)) (by omega) (by omega), rng_mk (n := k + (ctK xs j : Nat) + 1) (by omega) (by omega), rfl⟩)
          (putCells_in (fun i hi => ⟨_, HA.out i _ (List.getElem?_eq_getElem (by simpa using hi))⟩))
        exact hput
      case measure => simp [intOf]; omega
    · obtain rfl : j = xs.length := by omega
      have hr2 := hr.out
      rw [ctK_all] at hr2
      go_wp2
      go_ret
      exact ⟨ret_i hr2, by rw [← mkI_all]; exact hs, hm⟩
theorem markOrderS (v : Value) (xs : List Order) (k : Int) (w : World) (F : List Nat) (h : Sl w v xs F) (hnd : F.Nodup) (hfz : ∀ b ∈ F, Fz w b) (hk0 : 0 ≤ k) (hk1 : k + (GT.ct xs : Nat) ≤ 1000000000000) :
    Calls Tryz.prog 117 #[v, .int .i64 k] w fun e w' => e = .returned (.int .i64 (k + (GT.ct xs : Nat))) ∧ Sl w' v (GT.mkE xs k) F ∧ Mo F w w' := by
  obtain ⟨a, c, rfl, hl⟩ := Rs.form ⟨F, h⟩
  have H := Lib.hid h
  have HN := Lib.hid hnd
  have HZ := Lib.hid hfz
  clear h hnd hfz
  go_enter Tryz.func117, Tryz.ntmps117
  go_wp2
  go_loopw [1, 5] (fun kk i wr => ∃ (j : Nat) (r : Int), j ≤ xs.length ∧ i = .int .i64 j ∧ kk = .int .i64 r ∧ Hid (r = k + (ctK xs j : Nat)) ∧ Sl wr (.slice a xs.length c) (mkI xs k j) F ∧ Mo F w wr) (fun _ i _ => xs.length - (intOf i).toNat)
  case atStart => exact ⟨0, k, Nat.zero_le _, by go_num, by go_num, Lib.hid (by simp [ctK_zero]), H.out, Mo.refl _ _⟩
  case round =>
    obtain ⟨j, r, hj, rfl, rfl, hr, hs, hm⟩ := hrel
    clear H
    by_cases hlt : j < xs.length
    · obtain ⟨b, o, x, F0, cs, rfl, hx, henc, hat, HF⟩ := Sl.focus (i := j) hs HN.out (by rw [mkI_length]; exact hlt)
      have hx1 : Hid (xs[j]? = some x) := Lib.hid (by rw [← mkI_at xs k]; exact hx.out)
      have hct := ctK_at hx1.out
      have hr2 := hr.out
      obtain ⟨rfl, g0, g1, g2, rfl⟩ := henc
      have hcx : GT.ct x = 3 := rfl
      obtain ⟨CS, TT, hbk⟩ := hm.2.2.2 b (HZ.out b HF.out.2.2.1)
      have hfz := hbk.fz
      have hd0 := hat 0 _ rfl
      have hd1 := hat 1 _ rfl
      have hd2 := hat 2 _ rfl
      have HM := Lib.hid hm
      have HS := Lib.hid hs
      have HA := Lib.hid hat
      clear hs hm hat hbk
      simp only [GT.sz, Nat.mul_one, Nat.add_zero] at hd0 hd1 hd2
      go_wp2
      go_roundw
      case rel =>
        refine ⟨j + 1, _, by omega, by go_num, rfl, Lib.hid (by have := ctK_succ hx1.out; omega), ?_, (Mo.set (Mo.set (Mo.set HM.out (by exact HF.out.2.2.1) _) (by exact HF.out.2.2.1) _) (by exact HF.out.2.2.1) _)⟩
        rw [← mkI_succ k hx1.out]
        have hput := HF.out.2.2.2.2 (putCells wr b (o + j * GT.sz Order) [.int .i64 (k + (ctK xs j : Nat)), .int .i64 (k + (ctK xs j : Nat) + 1), .int .i64 (k + (ctK xs j : Nat) + 1 + 1)]) (GT.mkE x (k + (ctK xs j : Nat))) _
          (fun k' hk hne _ => putCells_heap hne) (fun o' ho => putCells_out ho) (⟨rfl, rng_mk (n := k + (ctK xs j : Nat)) (by omega) (by omega), rng_mk (n := k + (ctK xs j : Nat) + 1) (by omega) (by omega), rng_mk (n := k + (ctK xs j : Nat) + 1 + 1) (by omega) (by omega), rfl⟩)
          (putCells_in (fun i hi => ⟨_, HA.out i _ (List.getElem?_eq_getElem (by simpa using hi))⟩))
        exact hput
      case measure => simp [intOf]; omega
    · obtain rfl : j = xs.length := by omega
      have hr2 := hr.out
      rw [ctK_all] at hr2
      go_wp2
      go_ret
      exact ⟨ret_i hr2, by rw [← mkI_all]; exact hs, hm⟩
theorem markOrderSS (v : Value) (xs : List (List Order)) (k : Int) (w : World) (F : List Nat) (h : Sl w v xs F) (hnd : F.Nodup) (hfz : ∀ b ∈ F, Fz w b) (hk0 : 0 ≤ k) (hk1 : k + (GT.ct xs : Nat) ≤ 1000000000000) :
    Calls Tryz.prog 52 #[v, .int .i64 k] w fun e w' => e = .returned (.int .i64 (k + (GT.ct xs : Nat))) ∧ Sl w' v (GT.mkE xs k) F ∧ Mo F w w' := by
  obtain ⟨a, c, rfl, hl⟩ := Rs.form ⟨F, h⟩
  have H := Lib.hid h
  have HN := Lib.hid hnd
  have HZ := Lib.hid hfz
  clear h hnd hfz
  go_enter Tryz.func52, Tryz.ntmps52
  go_wp2
  go_loopw [1, 5] (fun kk i wr => ∃ (j : Nat) (r : Int), j ≤ xs.length ∧ i = .int .i64 j ∧ kk = .int .i64 r ∧ Hid (r = k + (ctK xs j : Nat)) ∧ Sl wr (.slice a xs.length c) (mkI xs k j) F ∧ Mo F w wr) (fun _ i _ => xs.length - (intOf i).toNat)
  case atStart => exact ⟨0, k, Nat.zero_le _, by go_num, by go_num, Lib.hid (by simp [ctK_zero]), H.out, Mo.refl _ _⟩
  case round =>
    obtain ⟨j, r, hj, rfl, rfl, hr, hs, hm⟩ := hrel
    clear H
    by_cases hlt : j < xs.length
    · obtain ⟨b, o, x, F0, cs, rfl, hx, henc, hat, HF⟩ := Sl.focus (i := j) hs HN.out (by rw [mkI_length]; exact hlt)
      have hx1 : Hid (xs[j]? = some x) := Lib.hid (by rw [← mkI_at xs k]; exact hx.out)
      have hct := ctK_at hx1.out
      have hr2 := hr.out
      obtain ⟨v0, rfl, h0⟩ := henc
      obtain ⟨a0, c0, rfl, hl0⟩ := Rs.form ⟨_, h0⟩
      have nd0 := HF.out.2.2.2.1
      have hin := HF.out.1
      have hzF := fun y hy => hm.2.2.2 y (HZ.out y (hin y hy))
      have N0 := Lib.hid (nd0)
      have Z0 : Hid (∀ y ∈ F0, Fz wr y) := Lib.hid (fun y hy => hzF y (by simp [hy]))
      have S0 := Lib.hid h0
      have nb0 : b ∉ F0 := fun hh => HF.out.2.1 (by simp [hh])
      clear nd0 hin hzF h0
      have HMF : Hid (Mo F0 wr wr) := Lib.hid (Mo.refl _ _)
      have fzb := hm.2.2.2 b (HZ.out b HF.out.2.2.1)
      obtain ⟨CS, TT, hbk⟩ := fzb
      have HBK := Lib.hid hbk
      have hfz := hbk.fz
      have HA := Lib.hid hat
      have HM := Lib.hid hm
      have hd0 := hat 0 _ rfl
      simp only [GT.sz, Nat.mul_one, Nat.add_zero] at hd0
      clear hs hm hat hbk
      go_wp2_with fail
      refine (markOrderS _ _ _ _ F0 S0.out N0.out Z0.out (by omega) (by omega)).mono ?_
      rintro e w1 ⟨rfl, hs0, hm0⟩
      replace S0 := Lib.hid hs0
      replace Z0 := Lib.hid (fun y hy => hm0.2.2.2 y (Z0.out y hy) : ∀ y ∈ F0, Fz w1 y)
      have hbb0 := hm0.2.2.1 b nb0
      have HB := Lib.hid hbb0
      replace HBK : Hid (Bk w1 b CS TT) := Lib.hid (by have h := HBK.out; unfold Bk at *; rw [hbb0]; exact h)
      replace HMF := Lib.hid (HMF.out.tr (hm0.wide (fun y hy => by simp [hy])))
      clear hfz
      have hfz := HBK.out.fz
      replace hd0 := (World.cell?_of_block (w := wr) (w' := w1) hbb0).trans hd0
      clear hs0 hm0 hbb0
      go_wp2
      go_roundw
      case rel =>
        refine ⟨j + 1, _, by omega, by go_num, rfl, Lib.hid (by have := ctK_succ hx1.out; omega), ?_, (HM.out.tr (HMF.out.wide HF.out.1))⟩
        rw [← mkI_succ k hx1.out]
        have hput := HF.out.2.2.2.2 (w1) (GT.mkE x (k + (ctK xs j : Nat))) [.slice a0 (x).length c0]
          (fun y hy hne hn => HMF.out.2.2.1 y hn) (fun o' ho => World.cell?_of_block HB.out)
          (⟨_, rfl, S0.out⟩)
          (by
            intro i u hi
            have hi2 : i < 1 := (List.getElem?_eq_some_iff.1 hi).1
            match i, hi2, hi with
            | 0, _, hi => cases hi; simpa [GT.sz] using hd0
            )
        exact hput
      case measure => simp [intOf]; omega
    · obtain rfl : j = xs.length := by omega
      have hr2 := hr.out
      rw [ctK_all] at hr2
      go_wp2
      go_ret
      exact ⟨ret_i hr2, by rw [← mkI_all]; exact hs, hm⟩
theorem markPartS (v : Value) (xs : List Part) (k : Int) (w : World) (F : List Nat) (h : Sl w v xs F) (hnd : F.Nodup) (hfz : ∀ b ∈ F, Fz w b) (hk0 : 0 ≤ k) (hk1 : k + (GT.ct xs : Nat) ≤ 1000000000000) :
    Calls Tryz.prog 114 #[v, .int .i64 k] w fun e w' => e = .returned (.int .i64 (k + (GT.ct xs : Nat))) ∧ Sl w' v (GT.mkE xs k) F ∧ Mo F w w' := by
  obtain ⟨a, c, rfl, hl⟩ := Rs.form ⟨F, h⟩
  have H := Lib.hid h
  have HN := Lib.hid hnd
  have HZ := Lib.hid hfz
  clear h hnd hfz
  go_enter Tryz.func114, Tryz.ntmps114
  go_wp2
  go_loopw [1, 5] (fun kk i wr => ∃ (j : Nat) (r : Int), j ≤ xs.length ∧ i = .int .i64 j ∧ kk = .int .i64 r ∧ Hid (r = k + (ctK xs j : Nat)) ∧ Sl wr (.slice a xs.length c) (mkI xs k j) F ∧ Mo F w wr) (fun _ i _ => xs.length - (intOf i).toNat)
  case atStart => exact ⟨0, k, Nat.zero_le _, by go_num, by go_num, Lib.hid (by simp [ctK_zero]), H.out, Mo.refl _ _⟩
  case round =>
    obtain ⟨j, r, hj, rfl, rfl, hr, hs, hm⟩ := hrel
    clear H
    by_cases hlt : j < xs.length
    · obtain ⟨b, o, x, F0, cs, rfl, hx, henc, hat, HF⟩ := Sl.focus (i := j) hs HN.out (by rw [mkI_length]; exact hlt)
      have hx1 : Hid (xs[j]? = some x) := Lib.hid (by rw [← mkI_at xs k]; exact hx.out)
      have hct := ctK_at hx1.out
      have hr2 := hr.out
      obtain ⟨v0, rfl, h0, g1⟩ := henc
      have hcx : GT.ct x = GT.ct x.Windows + GT.ct x.Cells := by rfl
      have hc_1 : GT.ct x.Cells = 1 := rfl
      obtain ⟨a0, c0, rfl, hl0⟩ := Rs.form ⟨_, h0⟩
      have nd0 := HF.out.2.2.2.1
      have hin := HF.out.1
      have hzF := fun y hy => hm.2.2.2 y (HZ.out y (hin y hy))
      have N0 := Lib.hid (nd0)
      have Z0 : Hid (∀ y ∈ F0, Fz wr y) := Lib.hid (fun y hy => hzF y (by simp [hy]))
      have S0 := Lib.hid h0
      have nb0 : b ∉ F0 := fun hh => HF.out.2.1 (by simp [hh])
      clear nd0 hin hzF h0
      have HMF : Hid (Mo F0 wr wr) := Lib.hid (Mo.refl _ _)
      have fzb := hm.2.2.2 b (HZ.out b HF.out.2.2.1)
      obtain ⟨CS, TT, hbk⟩ := fzb
      have HBK := Lib.hid hbk
      have hfz := hbk.fz
      have HA := Lib.hid hat
      have HM := Lib.hid hm
      have hd0 := hat 0 _ rfl
      have hd1 := hat 1 _ rfl
      simp only [GT.sz, Nat.mul_one, Nat.add_zero] at hd0 hd1
      clear hs hm hat hbk
      go_wp2_with fail
      refine (markWindowS _ _ _ _ F0 S0.out N0.out Z0.out (by omega) (by omega)).mono ?_
      rintro e w1 ⟨rfl, hs0, hm0⟩
      replace S0 := Lib.hid hs0
      replace Z0 := Lib.hid (fun y hy => hm0.2.2.2 y (Z0.out y hy) : ∀ y ∈ F0, Fz w1 y)
      have hbb0 := hm0.2.2.1 b nb0
      have HB := Lib.hid hbb0
      replace HBK : Hid (Bk w1 b CS TT) := Lib.hid (by have h := HBK.out; unfold Bk at *; rw [hbb0]; exact h)
      replace HMF := Lib.hid (HMF.out.tr (hm0.wide (fun y hy => by simp [hy])))
      clear hfz
      have hfz := HBK.out.fz
      replace hd0 := (World.cell?_of_block (w := wr) (w' := w1) hbb0).trans hd0
      replace hd1 := (World.cell?_of_block (w := wr) (w' := w1) hbb0).trans hd1
      clear hs0 hm0 hbb0
      go_wp2
      go_roundw
      case rel =>
        refine ⟨j + 1, _, by omega, by go_num, rfl, Lib.hid (by have := ctK_succ hx1.out; omega), ?_, (Mo.set (HM.out.tr (HMF.out.wide HF.out.1)) (by exact HF.out.2.2.1) _)⟩
        rw [← mkI_succ k hx1.out]
        have hput := HF.out.2.2.2.2 (putCells w1 b (o + j * GT.sz Part + 1) [.int .i64 (k + (ctK xs j : Nat) + (GT.ct x.Windows : Nat))]) (GT.mkE x (k + (ctK xs j : Nat))) [.slice a0 (x.Windows).length c0, .int .i64 (k + (ctK xs j : Nat) + (GT.ct x.Windows : Nat))]
          (fun y hy hne hn => (putCells_heap hne).trans (HMF.out.2.2.1 y hn)) (fun o' ho => (putCells_out (by simp only [GT.sz, List.length_cons, List.length_nil] at ho ⊢; omega)).trans (World.cell?_of_block HB.out))
          (⟨_, rfl, S0.out.keep (fun y hy => putCells_heap (b := b) (fun e => nb0 (e ▸ hy))), rng_mk (n := k + (ctK xs j : Nat) + (GT.ct x.Windows : Nat)) (by omega) (by omega)⟩)
          (by
            intro i u hi
            have hi2 : i < 2 := (List.getElem?_eq_some_iff.1 hi).1
            have hcells : At (putCells w1 b (o + j * GT.sz Part + 1) [.int .i64 (k + (ctK xs j : Nat) + (GT.ct x.Windows : Nat))]) b (o + j * GT.sz Part + 1) [.int .i64 (k + (ctK xs j : Nat) + (GT.ct x.Windows : Nat))] := putCells_in (by
              intro z hz
              have hz2 : z < 1 := hz
              match z, hz2 with
              | 0, _ => exact ⟨_, hd1⟩
              )
            match i, hi2, hi with
            | 0, _, hi => cases hi; exact (putCells_out (by left; omega)).trans hd0
            | 1, _, hi => cases hi; exact hcells 0 _ rfl
            )
        exact hput
      case measure => simp [intOf]; omega
    · obtain rfl : j = xs.length := by omega
      have hr2 := hr.out
      rw [ctK_all] at hr2
      go_wp2
      go_ret
      exact ⟨ret_i hr2, by rw [← mkI_all]; exact hs, hm⟩
theorem markCoreS (v : Value) (xs : List Core) (k : Int) (w : World) (F : List Nat) (h : Sl w v xs F) (hnd : F.Nodup) (hfz : ∀ b ∈ F, Fz w b) (hk0 : 0 ≤ k) (hk1 : k + (GT.ct xs : Nat) ≤ 1000000000000) :
    Calls Tryz.prog 53 #[v, .int .i64 k] w fun e w' => e = .returned (.int .i64 (k + (GT.ct xs : Nat))) ∧ Sl w' v (GT.mkE xs k) F ∧ Mo F w w' := by
  obtain ⟨a, c, rfl, hl⟩ := Rs.form ⟨F, h⟩
  have H := Lib.hid h
  have HN := Lib.hid hnd
  have HZ := Lib.hid hfz
  clear h hnd hfz
  go_enter Tryz.func53, Tryz.ntmps53
  go_wp2
  go_loopw [1, 5] (fun kk i wr => ∃ (j : Nat) (r : Int), j ≤ xs.length ∧ i = .int .i64 j ∧ kk = .int .i64 r ∧ Hid (r = k + (ctK xs j : Nat)) ∧ Sl wr (.slice a xs.length c) (mkI xs k j) F ∧ Mo F w wr) (fun _ i _ => xs.length - (intOf i).toNat)
  case atStart => exact ⟨0, k, Nat.zero_le _, by go_num, by go_num, Lib.hid (by simp [ctK_zero]), H.out, Mo.refl _ _⟩
  case round =>
    obtain ⟨j, r, hj, rfl, rfl, hr, hs, hm⟩ := hrel
    clear H
    by_cases hlt : j < xs.length
    · obtain ⟨b, o, x, F0, cs, rfl, hx, henc, hat, HF⟩ := Sl.focus (i := j) hs HN.out (by rw [mkI_length]; exact hlt)
      have hx1 : Hid (xs[j]? = some x) := Lib.hid (by rw [← mkI_at xs k]; exact hx.out)
      have hct := ctK_at hx1.out
      have hr2 := hr.out
      obtain ⟨v0, rfl, h0, g1⟩ := henc
      have hcx : GT.ct x = GT.ct x.Cells + GT.ct x.At + GT.ct x.Stopped := by rfl
      have hc_1 : GT.ct x.At = 1 := rfl
      have hc_2 : GT.ct x.Stopped = 1 := rfl
      obtain ⟨a0, c0, rfl, hl0⟩ := Rs.form ⟨_, h0⟩
      have nd0 := HF.out.2.2.2.1
      have hin := HF.out.1
      have hzF := fun y hy => hm.2.2.2 y (HZ.out y (hin y hy))
      have N0 := Lib.hid (nd0)
      have Z0 : Hid (∀ y ∈ F0, Fz wr y) := Lib.hid (fun y hy => hzF y (by simp [hy]))
      have S0 := Lib.hid h0
      have nb0 : b ∉ F0 := fun hh => HF.out.2.1 (by simp [hh])
      clear nd0 hin hzF h0
      have HMF : Hid (Mo F0 wr wr) := Lib.hid (Mo.refl _ _)
      have fzb := hm.2.2.2 b (HZ.out b HF.out.2.2.1)
      obtain ⟨CS, TT, hbk⟩ := fzb
      have HBK := Lib.hid hbk
      have hfz := hbk.fz
      have HA := Lib.hid hat
      have HM := Lib.hid hm
      have hd0 := hat 0 _ rfl
      have hd1 := hat 1 _ rfl
      have hd2 := hat 2 _ rfl
      simp only [GT.sz, Nat.mul_one, Nat.add_zero] at hd0 hd1 hd2
      clear hs hm hat hbk
      go_wp2_with fail
      refine (markIntS _ _ _ _ F0 S0.out N0.out Z0.out (by omega) (by omega)).mono ?_
      rintro e w1 ⟨rfl, hs0, hm0⟩
      replace S0 := Lib.hid hs0
      replace Z0 := Lib.hid (fun y hy => hm0.2.2.2 y (Z0.out y hy) : ∀ y ∈ F0, Fz w1 y)
      have hbb0 := hm0.2.2.1 b nb0
      have HB := Lib.hid hbb0
      replace HBK : Hid (Bk w1 b CS TT) := Lib.hid (by have h := HBK.out; unfold Bk at *; rw [hbb0]; exact h)
      replace HMF := Lib.hid (HMF.out.tr (hm0.wide (fun y hy => by simp [hy])))
      clear hfz
      have hfz := HBK.out.fz
      replace hd0 := (World.cell?_of_block (w := wr) (w' := w1) hbb0).trans hd0
      replace hd1 := (World.cell?_of_block (w := wr) (w' := w1) hbb0).trans hd1
      replace hd2 := (World.cell?_of_block (w := wr) (w' := w1) hbb0).trans hd2
      clear hs0 hm0 hbb0
      go_wp2
      go_roundw
      case rel =>
        refine ⟨j + 1, _, by omega, by go_num, rfl, Lib.hid (by have := ctK_succ hx1.out; omega), ?_, (Mo.set (Mo.set (HM.out.tr (HMF.out.wide HF.out.1)) (by exact HF.out.2.2.1) _) (by exact HF.out.2.2.1) _)⟩
        rw [← mkI_succ k hx1.out]
        have hput := HF.out.2.2.2.2 (putCells w1 b (o + j * GT.sz Core + 1) [.int .i64 (k + (ctK xs j : Nat) + (GT.ct x.Cells : Nat)), .bool ((k + (ctK xs j : Nat) + (GT.ct x.Cells : Nat) + 1) % 3 == 0)]) (GT.mkE x (k + (ctK xs j : Nat))) [.slice a0 (x.Cells).length c0, .int .i64 (k + (ctK xs j : Nat) + (GT.ct x.Cells : Nat)), .bool ((k + (ctK xs j : Nat) + (GT.ct x.Cells : Nat) + 1) % 3 == 0)]
          (fun y hy hne hn => (putCells_heap hne).trans (HMF.out.2.2.1 y hn)) (fun o' ho => (putCells_out (by simp only [GT.sz, List.length_cons, List.length_nil] at ho ⊢; omega)).trans (World.cell?_of_block HB.out))
          (⟨_, rfl, S0.out.keep (fun y hy => putCells_heap (b := b) (fun e => nb0 (e ▸ hy))), rng_mk (n := k + (ctK xs j : Nat) + (GT.ct x.Cells : Nat)) (by omega) (by omega)⟩)
          (by
            intro i u hi
            have hi2 : i < 3 := (List.getElem?_eq_some_iff.1 hi).1
            have hcells : At (putCells w1 b (o + j * GT.sz Core + 1) [.int .i64 (k + (ctK xs j : Nat) + (GT.ct x.Cells : Nat)), .bool ((k + (ctK xs j : Nat) + (GT.ct x.Cells : Nat) + 1) % 3 == 0)]) b (o + j * GT.sz Core + 1) [.int .i64 (k + (ctK xs j : Nat) + (GT.ct x.Cells : Nat)), .bool ((k + (ctK xs j : Nat) + (GT.ct x.Cells : Nat) + 1) % 3 == 0)] := putCells_in (by
              intro z hz
              have hz2 : z < 2 := hz
              match z, hz2 with
              | 0, _ => exact ⟨_, hd1⟩
              | 1, _ => exact ⟨_, hd2⟩
              )
            match i, hi2, hi with
            | 0, _, hi => cases hi; exact (putCells_out (by left; omega)).trans hd0
            | 1, _, hi => cases hi; exact hcells 0 _ rfl
            | 2, _, hi => cases hi; exact hcells 1 _ rfl
            )
        exact hput
      case measure => simp [intOf]; omega
    · obtain rfl : j = xs.length := by omega
      have hr2 := hr.out
      rw [ctK_all] at hr2
      go_wp2
      go_ret
      exact ⟨ret_i hr2, by rw [← mkI_all]; exact hs, hm⟩
theorem markHoldS (v : Value) (xs : List Hold) (k : Int) (w : World) (F : List Nat) (h : Sl w v xs F) (hnd : F.Nodup) (hfz : ∀ b ∈ F, Fz w b) (hk0 : 0 ≤ k) (hk1 : k + (GT.ct xs : Nat) ≤ 1000000000000) :
    Calls Tryz.prog 54 #[v, .int .i64 k] w fun e w' => e = .returned (.int .i64 (k + (GT.ct xs : Nat))) ∧ Sl w' v (GT.mkE xs k) F ∧ Mo F w w' := by
  obtain ⟨a, c, rfl, hl⟩ := Rs.form ⟨F, h⟩
  have H := Lib.hid h
  have HN := Lib.hid hnd
  have HZ := Lib.hid hfz
  clear h hnd hfz
  go_enter Tryz.func54, Tryz.ntmps54
  go_wp2
  go_loopw [1, 5] (fun kk i wr => ∃ (j : Nat) (r : Int), j ≤ xs.length ∧ i = .int .i64 j ∧ kk = .int .i64 r ∧ Hid (r = k + (ctK xs j : Nat)) ∧ Sl wr (.slice a xs.length c) (mkI xs k j) F ∧ Mo F w wr) (fun _ i _ => xs.length - (intOf i).toNat)
  case atStart => exact ⟨0, k, Nat.zero_le _, by go_num, by go_num, Lib.hid (by simp [ctK_zero]), H.out, Mo.refl _ _⟩
  case round =>
    obtain ⟨j, r, hj, rfl, rfl, hr, hs, hm⟩ := hrel
    clear H
    by_cases hlt : j < xs.length
    · obtain ⟨b, o, x, F0, cs, rfl, hx, henc, hat, HF⟩ := Sl.focus (i := j) hs HN.out (by rw [mkI_length]; exact hlt)
      have hx1 : Hid (xs[j]? = some x) := Lib.hid (by rw [← mkI_at xs k]; exact hx.out)
      have hct := ctK_at hx1.out
      have hr2 := hr.out
      obtain ⟨v0, rfl, h0⟩ := henc
      have hcx : GT.ct x = GT.ct x.Lst := by rfl
      obtain ⟨a0, c0, rfl, hl0⟩ := Rs.form ⟨_, h0⟩
      have nd0 := HF.out.2.2.2.1
      have hin := HF.out.1
      have hzF := fun y hy => hm.2.2.2 y (HZ.out y (hin y hy))
      have N0 := Lib.hid (nd0)
      have Z0 : Hid (∀ y ∈ F0, Fz wr y) := Lib.hid (fun y hy => hzF y (by simp [hy]))
      have S0 := Lib.hid h0
      have nb0 : b ∉ F0 := fun hh => HF.out.2.1 (by simp [hh])
      clear nd0 hin hzF h0
      have HMF : Hid (Mo F0 wr wr) := Lib.hid (Mo.refl _ _)
      have fzb := hm.2.2.2 b (HZ.out b HF.out.2.2.1)
      obtain ⟨CS, TT, hbk⟩ := fzb
      have HBK := Lib.hid hbk
      have hfz := hbk.fz
      have HA := Lib.hid hat
      have HM := Lib.hid hm
      have hd0 := hat 0 _ rfl
      simp only [GT.sz, Nat.mul_one, Nat.add_zero] at hd0
      clear hs hm hat hbk
      go_wp2_with fail
      refine (markIntS _ _ _ _ F0 S0.out N0.out Z0.out (by omega) (by omega)).mono ?_
      rintro e w1 ⟨rfl, hs0, hm0⟩
      replace S0 := Lib.hid hs0
      replace Z0 := Lib.hid (fun y hy => hm0.2.2.2 y (Z0.out y hy) : ∀ y ∈ F0, Fz w1 y)
      have hbb0 := hm0.2.2.1 b nb0
      have HB := Lib.hid hbb0
      replace HBK : Hid (Bk w1 b CS TT) := Lib.hid (by have h := HBK.out; unfold Bk at *; rw [hbb0]; exact h)
      replace HMF := Lib.hid (HMF.out.tr (hm0.wide (fun y hy => by simp [hy])))
      clear hfz
      have hfz := HBK.out.fz
      replace hd0 := (World.cell?_of_block (w := wr) (w' := w1) hbb0).trans hd0
      clear hs0 hm0 hbb0
      go_wp2
      go_roundw
      case rel =>
        refine ⟨j + 1, _, by omega, by go_num, rfl, Lib.hid (by have := ctK_succ hx1.out; omega), ?_, (HM.out.tr (HMF.out.wide HF.out.1))⟩
        rw [← mkI_succ k hx1.out]
        have hput := HF.out.2.2.2.2 (w1) (GT.mkE x (k + (ctK xs j : Nat))) [.slice a0 (x.Lst).length c0]
          (fun y hy hne hn => HMF.out.2.2.1 y hn) (fun o' ho => World.cell?_of_block HB.out)
          (⟨_, rfl, S0.out⟩)
          (by
            intro i u hi
            have hi2 : i < 1 := (List.getElem?_eq_some_iff.1 hi).1
            match i, hi2, hi with
            | 0, _, hi => cases hi; simpa [GT.sz] using hd0
            )
        exact hput
      case measure => simp [intOf]; omega
    · obtain rfl : j = xs.length := by omega
      have hr2 := hr.out
      rw [ctK_all] at hr2
      go_wp2
      go_ret
      exact ⟨ret_i hr2, by rw [← mkI_all]; exact hs, hm⟩
end Sk
