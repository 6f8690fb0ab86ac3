/- Contracts of functions of the given program, each under the condition that it states. -/
import Derived.Test.YtbmdiefanhghcaaGreatChecked
import Derived.Test.YtbmdiefanhghcaaGreatChan
namespace Sk
open Go Go.Proofs Go.RowKit
set_option maxHeartbeats 400000
set_option maxRecDepth 100000
set_option linter.unusedVariables false
set_option linter.unusedSimpArgs false
theorem rng_mk {n : Int} (h1 : 0 ≤ n) (h2 : n ≤ 1000000000000) : rng n := ⟨by omega, by omega⟩
def Mo (F : List Nat) (w w' : World) : Prop :=
 w'.heap.size = w.heap.size ∧ Ext {w with heap := #[]} {w' with heap := #[]} ∧ (∀ b, b ∉ F → w'.heap[b]? = w.heap[b]?) ∧ ∀ b, Fz w b → Fz w' b
theorem Mo.refl (F : List Nat) (w : World) : Mo F w w := ⟨rfl, Ext.refl _, fun _ _ => rfl, fun _ h => h⟩
theorem Mo.tr {F : List Nat} {a b c : World} (h : Mo F a b) (k : Mo F b c) : Mo F a c :=
 ⟨k.1.trans h.1, h.2.1.tr k.2.1, fun x hx => (k.2.2.1 x hx).trans (h.2.2.1 x hx), fun x hx => k.2.2.2 x (h.2.2.2 x hx)⟩
theorem Mo.wide {F G : List Nat} {a b : World} (h : Mo F a b) (hF : ∀ x ∈ F, x ∈ G) : Mo G a b :=
 ⟨h.1, h.2.1, fun x hx => h.2.2.1 x (fun hm => hx (hF x hm)), h.2.2.2⟩
theorem Mo.set {F : List Nat} {a b : World} (h : Mo F a b) {p : Addr} (hp : p.block ∈ F) (u : Value) : Mo F a (b.setCell p u) := by
 refine ⟨by rw [← h.1]; simp, ?_, fun x hx => ?_, fun x hx => (h.2.2.2 x hx).set p u⟩
 ·obtain ⟨h1, h2, h3, h4, h5⟩ := h.2.1
  exact ⟨h1, h2, h3, h4, h5⟩
 ·rw [heap_set_ne (fun e => hx (by rw [e]; exact hp))]; exact h.2.2.1 x hx
theorem Mo.ext {F : List Nat} {W a b : World} (h : Mo F a b) (he : Ext W a) (hF : ∀ x ∈ F, W.heap.size ≤ x) : Ext W b := by
 obtain ⟨h1, h2, h3, h4, h5⟩ := he
 obtain ⟨k1, k2, k3, k4, k5⟩ := h.2.1
 exact ⟨k1.trans h1, k2.trans h2, k3.trans h3, by rw [h.1]; exact h4, fun b hb => (h.2.2.1 b (fun hm => by have := hF b hm; omega)).trans (h5 b hb)⟩
def Mx (F : List Nat) (w w' : World) : Prop :=
 Ext {w with heap := #[]} {w' with heap := #[]} ∧ w.heap.size ≤ w'.heap.size ∧ (∀ b, b < w.heap.size → b ∉ F → w'.heap[b]? = w.heap[b]?) ∧ ∀ b, Fz w b → Fz w' b
theorem Mx.ofExt {F : List Nat} {w w' : World} (h : Ext w w') : Mx F w w' :=
 ⟨⟨h.os, h.tape, h.output, Nat.le_refl _, fun b hb => by cases hb⟩, h.sz, fun b hb _ => h.block b hb, fun b hb => hb.ext h⟩
theorem Mx.ofMo {F : List Nat} {w w' : World} (h : Mo F w w') : Mx F w w' := ⟨h.2.1, Nat.le_of_eq h.1.symm, fun b _ hn => h.2.2.1 b hn, h.2.2.2⟩
theorem Mx.tr {F : List Nat} {a b c : World} (h : Mx F a b) (k : Mx F b c) : Mx F a c :=
 ⟨h.1.tr k.1, Nat.le_trans h.2.1 k.2.1, fun x hx hn => (k.2.2.1 x (Nat.lt_of_lt_of_le hx h.2.1) hn).trans (h.2.2.1 x hx hn), fun x hx => k.2.2.2 x (h.2.2.2 x hx)⟩
theorem Mx.wide {F G : List Nat} {a b : World} (h : Mx F a b) (hF : ∀ x ∈ F, x ∈ G) : Mx G a b :=
 ⟨h.1, h.2.1, fun x hx hn => h.2.2.1 x hx (fun hm => hn (hF x hm)), h.2.2.2⟩
theorem Mx.ext {F : List Nat} {W a b : World} (h : Mx F a b) (he : Ext W a) (hF : ∀ x ∈ F, W.heap.size ≤ x) : Ext W b := by
 obtain ⟨h1, h2, h3, h4, h5⟩ := he
 obtain ⟨k1, k2, k3, k4, k5⟩ := h.1
 exact ⟨k1.trans h1, k2.trans h2, k3.trans h3, Nat.le_trans h4 h.2.1, fun b hb => (h.2.2.1 b (Nat.lt_of_lt_of_le hb h4) (fun hm => by have := hF b hm; omega)).trans (h5 b hb)⟩
theorem Mx.enc {α : Type} [GT α] {F G : List Nat} {a b : World} {cs : List Value} {x : α} (h : Mx F a b) (k : GT.enc a cs x G) (hd : ∀ y, y ∈ G → y ∈ F → False) : GT.enc b cs x G :=
 GT.keep k fun y hy => h.2.2.1 y (GT.inh k y hy) (fun hf => hd y hy hf)
theorem Mx.sl {α : Type} [GT α] {F G : List Nat} {a b : World} {v : Value} {x : List α} (h : Mx F a b) (k : Sl a v x G) (hd : ∀ y, y ∈ G → y ∈ F → False) : Sl b v x G :=
 k.keep fun y hy => h.2.2.1 y (k.inh y hy) (fun hf => hd y hy hf)
theorem Mx.bk {F : List Nat} {a b : World} {p : Nat} {cs : List Value} {T : TypeId} (h : Mx F a b) (k : Bk a p cs T) (hp : p ∉ F) : Bk b p cs T := by
 have := h.2.2.1 p k.lt hp
 unfold Bk at *; rw [this]; exact k
theorem Sl.focus {α : Type} [GT α] {w : World} {a : Option Addr} {n c i : Nat} {xs : List α} {F : List Nat} (h : Sl w (.slice a n c) xs F) (hnd : F.Nodup) (hi : i < xs.length) :
  ∃ b o x F0 cs, a = some ⟨b, o, none⟩ ∧ Hid (xs[i]? = some x) ∧ GT.enc w cs x F0 ∧ At w b (o + i * GT.sz α) cs ∧ Hid ((∀ k ∈ F0, k ∈ F) ∧ b ∉ F0 ∧ b ∈ F ∧ F0.Nodup ∧
   ∀ w' x' cs', (∀ k ∈ F, k ≠ b → k ∉ F0 → w'.heap[k]? = w.heap[k]?) → (∀ o', (o' < o + i * GT.sz α ∨ o + i * GT.sz α + GT.sz α ≤ o') → w'.cell? ⟨b, o', none⟩ = w.cell? ⟨b, o', none⟩) →
    GT.enc w' cs' x' F0 → At w' b (o + i * GT.sz α) cs' → Sl w' (.slice a n c) (xs.set i x') F) := by
 obtain ⟨a', c', he, hl, hc, ⟨rfl, rfl⟩ | ⟨hne, b, o, F', rfl, rfl, hr⟩⟩ := h
 ·cases hi
 cases he
 have hsp : xs = xs.take i ++ xs[i] :: xs.drop (i + 1) := by
  rw [List.getElem_cons_drop, List.take_append_drop]
 have hr' := hr
 rw [hsp] at hr'
 obtain ⟨F1, F2, rfl, hr1, hr2⟩ := hr'.split
 have hlen : (xs.take i).length = i := by rw [List.length_take]; omega
 rw [hlen] at hr2
 obtain ⟨cs, F0, F3, henc, hat, rfl, hr3⟩ := hr2
 have hndc := List.nodup_cons.1 hnd
 have hb := hndc.1
 simp only [List.mem_append] at hb
 have hnd2 := hndc.2
 simp only [List.nodup_append, List.mem_append] at hnd2
 obtain ⟨n1, ⟨n0, n3, n03⟩, n1x⟩ := hnd2
 refine ⟨b, o, xs[i], F0, cs, rfl, by unfold Hid; simp [hi], henc, hat, zh ⟨fun k hk => by simp [hk], fun hk => hb (.inr (.inl hk)), by simp, n0, ?_⟩⟩
 intro w' x' cs' hk hcell henc' hat'
 have hlc := GT.len henc
 have hset : xs.set i x' = xs.take i ++ x' :: xs.drop (i + 1) := by
  rw [List.set_eq_take_append_cons_drop, if_pos hi]
 refine ⟨some ⟨b, o, none⟩, c, by simp, by simpa using hl, hc, .inr ⟨set_ne_nil hne, b, o, _, rfl, rfl, ?_⟩⟩
 rw [hset]
 refine Row.append (hr1.move (fun k hk' => hk k (by simp [hk']) (fun e => hb (.inl (e ▸ hk'))) (fun h0 => n1x k hk' k (.inl h0) rfl)) fun j u hj hu => ?_) ?_
 ·rw [hlen] at hj
  rw [hcell _ (by left; omega)]; exact hu
 ·rw [hlen]
  refine ⟨cs', F0, F3, henc', hat', rfl, hr3.move (fun k hk' => hk k (by simp [hk']) (fun e => hb (.inr (.inr (e ▸ hk')))) (fun h0 => n03 k h0 k hk' rfl)) fun j u hj hu => ?_⟩
  rw [hcell _ (by right; omega)]; exact hu
theorem mkL_append {α : Type} (mk : α → Int → α) (ct : α → Nat) (xs ys : List α) : ∀ k, mkL mk ct (xs ++ ys) k = mkL mk ct xs k ++ mkL mk ct ys (k + ((xs.map ct).sum : Nat)) := by
 induction xs with
 | nil => intro k; simp [mkL]
 | cons x xs ih =>
  intro k
  simp only [List.cons_append, mkL, ih, List.map_cons, List.sum_cons]
  congr 3
  omega
def ctK {α : Type} [GT α] (xs : List α) (k : Nat) : Nat := ((xs.take k).map GT.ct).sum
theorem ctK_zero {α : Type} [GT α] (xs : List α) : ctK xs 0 = 0 := rfl
theorem ctK_succ {α : Type} [GT α] {xs : List α} {k : Nat} {x : α} (hk : xs[k]? = some x) : ctK xs (k + 1) = ctK xs k + GT.ct x := by
 unfold ctK; rw [take_snoc hk]; simp
theorem ctK_all {α : Type} [GT α] (xs : List α) : ctK xs xs.length = GT.ct xs := by unfold ctK; rw [List.take_length]; rfl
theorem ctK_le {α : Type} [GT α] (xs : List α) (k : Nat) : ctK xs k ≤ GT.ct xs := by
 show ((xs.take k).map GT.ct).sum ≤ (xs.map GT.ct).sum
 have : (xs.map GT.ct).sum = ((xs.take k).map GT.ct).sum + ((xs.drop k).map GT.ct).sum := by
  rw [← List.sum_append, ← List.map_append, List.take_append_drop]
 omega
theorem ctK_at {α : Type} [GT α] {xs : List α} {k : Nat} {x : α} (hk : xs[k]? = some x) : ctK xs k + GT.ct x ≤ GT.ct xs := by
 rw [← ctK_succ hk]; exact ctK_le _ _
theorem mk_at {α : Type} [GT α] {xs : List α} {k : Int} (h : GT.mkE xs k = xs) {i : Nat} {x : α} (hi : xs[i]? = some x) : GT.mkE x (k + (ctK xs i : Nat)) = x := by
 have hsp : xs = xs.take i ++ x :: xs.drop (i + 1) := by
  obtain ⟨hl, rfl⟩ := List.getElem?_eq_some_iff.1 hi
  rw [List.getElem_cons_drop, List.take_append_drop]
 have h1 : mkL GT.mkE GT.ct xs k = xs := h
 have h2 : mkL GT.mkE GT.ct xs k = mkL GT.mkE GT.ct (xs.take i) k ++ GT.mkE x (k + (ctK xs i : Nat)) :: mkL GT.mkE GT.ct (xs.drop (i + 1)) (k + (ctK xs i : Nat) + (GT.ct x : Nat)) := by
  rw [show mkL GT.mkE GT.ct xs k = mkL GT.mkE GT.ct (xs.take i ++ x :: xs.drop (i + 1)) k from by rw [← hsp], mkL_append]
  rfl
 have h3 : (mkL GT.mkE GT.ct xs k)[i]? = some (GT.mkE x (k + (ctK xs i : Nat))) := by
  have hlen : (mkL (GT.mkE (α := α)) GT.ct (xs.take i) k).length = i := by
   rw [mkL_length, List.length_take]; have := lt_of_some hi; omega
  rw [h2, List.getElem?_append_right (by omega), hlen]; simp
 rw [h1, hi] at h3
 exact (Option.some.inj h3).symm
def mkI {α : Type} [GT α] (xs : List α) (k : Int) (i : Nat) : List α := GT.mkE (xs.take i) k ++ xs.drop i
theorem mkI_all {α : Type} [GT α] (xs : List α) (k : Int) : mkI xs k xs.length = GT.mkE xs k := by unfold mkI; simp
theorem mkI_length {α : Type} [GT α] (xs : List α) (k : Int) (i : Nat) : (mkI xs k i).length = xs.length := by
 show (mkL GT.mkE GT.ct (xs.take i) k ++ xs.drop i).length = _
 rw [List.length_append, mkL_length, ← List.length_append, List.take_append_drop]
theorem mkI_at {α : Type} [GT α] (xs : List α) (k : Int) {i : Nat} : (mkI xs k i)[i]? = xs[i]? := by
 show (mkL GT.mkE GT.ct (xs.take i) k ++ xs.drop i)[i]? = _
 by_cases hi : i < xs.length
 ·have hlen : (mkL (GT.mkE (α := α)) GT.ct (xs.take i) k).length = i := by rw [mkL_length, List.length_take]; omega
  rw [List.getElem?_append_right (by omega), hlen]; simp
 ·have hz : (mkL GT.mkE GT.ct (xs.take i) k ++ xs.drop i).length = xs.length := mkI_length xs k i
  rw [List.getElem?_eq_none (by omega), List.getElem?_eq_none (by omega)]
theorem mkI_succ {α : Type} [GT α] {xs : List α} (k : Int) {i : Nat} {x : α} (hi : xs[i]? = some x) : (mkI xs k i).set i (GT.mkE x (k + (ctK xs i : Nat))) = mkI xs k (i + 1) := by
 show (mkL GT.mkE GT.ct (xs.take i) k ++ xs.drop i).set i _ = mkL GT.mkE GT.ct (xs.take (i + 1)) k ++ xs.drop (i + 1)
 have hl := lt_of_some hi
 have hlen : (mkL (GT.mkE (α := α)) GT.ct (xs.take i) k).length = i := by rw [mkL_length, List.length_take]; omega
 obtain ⟨_, hx⟩ := List.getElem?_eq_some_iff.1 hi
 have hd : xs.drop i = x :: xs.drop (i + 1) := by rw [← hx, List.getElem_cons_drop]
 rw [List.set_append_right _ _ (by omega), hlen, Nat.sub_self, hd, List.set_cons_zero, take_snoc hi, mkL_append]
 show _ = (mkL GT.mkE GT.ct (xs.take i) k ++ [GT.mkE x (k + (ctK xs i : Nat))]) ++ _
 simp
end Sk
