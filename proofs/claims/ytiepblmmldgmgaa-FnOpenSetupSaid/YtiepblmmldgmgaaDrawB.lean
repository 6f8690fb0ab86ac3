/- Contracts of functions of the given program, and lemmas for them: each theorem states the condition under which it holds. -/
import Derived.Test.YtiepblmmldgmgaaChecked
import Derived.Deep.CutBlock
import Derived.Deep.CutRange
import Derived.Test.YtiepblmmldgmgaaDrawPol
import Derived.Test.YtiepblmmldgmgaaBuild
import Derived.Test.YtiepblmmldgmgaaDrawSt
import Derived.Test.YtiepblmmldgmgaaDrawW
namespace Sk
open Go Go.Proofs Go.RowKit
set_option maxHeartbeats 1600000
set_option maxRecDepth 100000
set_option linter.unusedVariables false
set_option linter.unusedSimpArgs false
theorem Rsb.take {α : Type} [GT α] {L : Nat} {w : World} {a : Option Addr} {n c k : Nat} {xs : List α} (h : Rsb L w (.slice a n c) xs) (hk : k ≤ xs.length) : Rsb L w (.slice a k c) (xs.take k) := by
  obtain ⟨F, ⟨a', c', he, hl, hc, hr⟩, hL⟩ := h
  cases he
  have hlen : (xs.take k).length = k := by rw [List.length_take]; omega
  rcases hr with ⟨rfl, rfl⟩ | ⟨_, b, o, F', rfl, rfl, hr⟩
  · exact ⟨[], ⟨_, c, by rw [hlen], by rw [hlen]; exact Nat.le_trans hk hl, hc, .inl ⟨by simp, rfl⟩⟩, hL⟩
  · rw [← List.take_append_drop k xs] at hr
    obtain ⟨F1, F2, rfl, h1, _⟩ := hr.split
    by_cases hx : xs.take k = []
    · exact ⟨[], ⟨_, c, by rw [hlen], by rw [hlen]; exact Nat.le_trans hk hl, hc, .inl ⟨hx, rfl⟩⟩, fun k hk => by cases hk⟩
    · exact ⟨b :: F1, ⟨_, c, by rw [hlen], by rw [hlen]; exact Nat.le_trans hk hl, hc, .inr ⟨hx, b, o, F1, rfl, rfl, h1⟩⟩, fun k hk => hL k (by
        rcases List.mem_cons.1 hk with rfl | hk
        · exact List.mem_cons_self ..
        · exact List.mem_cons_of_mem _ (List.mem_append_left _ hk))⟩
theorem Oo.setI {e : TypeId} {L : Nat} {w : World} {G n c i : Nat} {xs : List Int} {y : Int} (h : Oo e L w (.slice (some ⟨G, 0, none⟩) n c) xs) (hi : i < xs.length) (hy : rng y) :
    Oo e L (w.setCell ⟨G, i, none⟩ (.int .i64 y)) (.slice (some ⟨G, 0, none⟩) n c) (xs.set i y) := by
  obtain ⟨F, hA, ho⟩ := h
  rcases hA with ⟨h, _⟩ | ⟨G, cap, cur, he, hL, hg, hl, hc, hs, hr, hn⟩
  · cases h
  · cases he
    have hF := hr.fl
    subst hF
    have hB := (Bk.ofA hg).set i (.int .i64 y)
    obtain ⟨cs0, F1, x0, _, hx0, hxa, _⟩ := hr.get i hi
    obtain ⟨rfl, _, rfl⟩ := hx0
    have h0 := hxa 0 _ rfl
    simp only [GT.sz, Nat.mul_one, Nat.zero_add, Nat.add_zero] at h0
    obtain ⟨F1, F0, F2, hF, _, hrow⟩ := hr.upd (w' := w.setCell ⟨G, i, none⟩ (.int .i64 y)) (y := y) (cs := [.int .i64 y]) (Fy := []) i hi (fun k hk => by cases hk) (fun o' ho' => cell_set_other (by simp only [GT.sz] at ho'; omega)) ⟨rfl, hy, rfl⟩ (fun j u hj => by
      cases j with
      | zero =>
        cases hj
        simp only [GT.sz, Nat.mul_one, Nat.zero_add, Nat.add_zero]
        exact World.cell?_setCell_same _ _ _ h0
      | succ j => cases hj)
    refine ⟨[], .inr ⟨G, c, _, by simp, hL, hB, by simpa using hl, hc, by simpa using hs, ?_, by simp⟩, Own.nil _ _⟩
    have := hrow.fl
    rwa [this] at hrow
/-- The numbers of an owned list (of type 3) in memory. -/
theorem Oo.addrI {L : Nat} {w : World} {a : Option Addr} {n c : Nat} {xs : List Int} (h : Oo 3 L w (.slice a n c) xs) (hx : 0 < xs.length) :
    ∃ G, a = some ⟨G, 0, none⟩ ∧ n = xs.length ∧ L ≤ G ∧ G < w.heap.size ∧ (∀ j, w.frozen? ⟨G, j, none⟩ = false) ∧ ∀ i, i < xs.length → ∃ y : Int, w.cell? ⟨G, i, none⟩ = some (.int .i64 y) := by
  obtain ⟨F, hA, ho⟩ := h
  rcases hA with ⟨_, rfl, _⟩ | ⟨G, cap, cur, he, hL, hg, hl, hc, hs, hr, hn⟩
  · cases hx
  · cases he
    refine ⟨G, rfl, rfl, hL, (Bk.ofA hg).lt, fun j => (Bk.ofA hg).fz j, fun i hi => ?_⟩
    obtain ⟨cs0, F1, x0, _, hx0, hxa, _⟩ := hr.get i hi
    obtain ⟨rfl, _, rfl⟩ := hx0
    have h0 := hxa 0 _ rfl
    simp only [GT.sz, Nat.mul_one, Nat.zero_add, Nat.add_zero] at h0
    exact ⟨_, h0⟩
theorem Oo.cellI {L G : Nat} {w : World} {n c : Nat} {xs : List Int} (h : Oo 3 L w (.slice (some ⟨G, 0, none⟩) n c) xs) (hx : 0 < xs.length) :
    G < w.heap.size ∧ (∀ j, w.frozen? ⟨G, j, none⟩ = false) ∧ ∀ i, i < xs.length → ∃ y : Int, w.cell? ⟨G, i, none⟩ = some (.int .i64 y) := by
  obtain ⟨_, he, _, _, h1, h2, h3⟩ := h.addrI hx
  cases he
  exact ⟨h1, h2, h3⟩
theorem spec_l20Bend (W w : World) (b m : Nat) (v : Value) (xs : List Int) (n : Int) (h : Rd W w b (m + 6)) (hx : Rs w v xs) (hl : xs.length ≤ 1100) (hn1 : -1000000 ≤ n) (hn2 : n ≤ 1000000) :
    Calls Try.prog 42 #[.pointer (some ⟨b, 0, none⟩), v, .int .i64 n] w fun e w' => ∃ v' ys, e = .returned v' ∧ Rsb (α := Int) w.heap.size w' v' ys ∧ ys.length ≤ 1101 ∧ Mw [b] w w' ∧ Rd W w' b m := by
  have H := Lib.hid h
  have hbl := h.lt
  have hbW := h.1
  have hWw := h.2.1.sz
  clear h
  obtain ⟨F, a, c, rfl, hlc, hcm, hr⟩ := hx
  by_cases hx0 : xs = []
  · subst hx0
    go_enter Try.func42, Try.ntmps42
    go_upto_region 2 with (at_builtin; refine wpl_lit0 (α := Int) rfl _ _ 29 rfl 3 Try.underlying29 elInt (ys := []) rfl rfl ⟨[], _, c, rfl, hlc, hcm, .inl ⟨rfl, rfl⟩⟩ (by simp) ?_; intro v5 w5 F5 hs5 ho5 he5; have HE5 := Lib.hid (((Ext.refl w).alloc _).tr he5); obtain ⟨p5, q5, rfl, hq51, hq52, _⟩ := id hs5; clear hs5 ho5 he5)
    go_wp2
    go_ret
    exact ⟨_, rfl, [], Rsb.nil rfl rfl (by unfold maxLen at hq52; omega), by simp, Mw.ofExt HE5.out, (H.out.ext HE5.out).le (by omega)⟩
  · rcases hr with ⟨h, _⟩ | ⟨_, ab, ao, F', rfl, rfl, hrow⟩
    · exact absurd h hx0
    have hF : F' = [] := hrow.fl
    subst hF
    have hx1 : 0 < xs.length := List.length_pos_iff.2 hx0
    have HROW := Lib.hid hrow
    clear hrow hx0
    go_enter Try.func42, Try.ntmps42
    go_upto_region 2 with (at_builtin; refine wpl_appB (α := Int) rfl _ _ 29 rfl 3 Try.underlying29 elInt (v := .slice (some ⟨w.heap.size, 0, none⟩) 0 0) (ys := xs) (Fy := []) rfl (Oo.lit0 (α := Int) 3 w).ob (by simp) (Nat.le_refl _) rfl rfl (HROW.out.keep (((Ext.refl w).alloc _).block _ (HROW.out.lt (List.length_pos_iff.1 hx1))) (fun k hk => by cases hk)) hx1 (Own.nil _ _) (by simp; omega) ?_; intro v5 w5 hO5 hg5; have HO := Lib.hid (show Oo 3 w.heap.size w5 v5 xs from hO5); have HMW : Hid (Mw [b] w w5) := Lib.hid ((Mw.ofExt ((Ext.refl w).alloc _)).trF hg5 (fun x hx => .inr (Nat.le_of_eq (Option.some.inj (show some w.heap.size = some x from Option.mem_toList.1 hx))))); have HRD := Lib.hid ((H.out.ext ((Ext.refl w).alloc _)).mw hg5 (fun hm => by have := Option.some.inj (show some w.heap.size = some b from Option.mem_toList.1 hm); omega) (fun x hx => by have := Option.some.inj (show some w.heap.size = some x from Option.mem_toList.1 hx); omega)); obtain ⟨p5, q5, rfl, _⟩ := HO.out.form; have hs5 := HMW.out.size; clear hO5 hg5)
    clear H HROW
    go_upto_if 19 with (go_at_call 55; refine (spec_odd W _ b _ _ HRD.out (rng_sm (by omega) (by omega))).mono ?_; rintro e w2 ⟨⟨q, rfl⟩, hm, hr⟩; have hs2 := (Mw.ofMo hm).size; replace HMW := Lib.hid (HMW.out.tr (Mw.ofMo hm)); replace HO := Lib.hid (HO.out.mo hm (by simp; omega)); replace HRD := Lib.hid hr; clear hm hr)
    have hxc : xs.length ≤ q5 ∧ q5 ≤ 9223372036854775807 := HO.out.cap
    obtain ⟨hxc1, hxc2⟩ := hxc
    have hl0 : ((xs.length : Int) == 0) = false := by simp; omega
    cases q
    · simp only [hl0, Bool.not_false]
      go_wp2
      go_ret
      exact ⟨_, xs, rfl, HO.out.rsb, by omega, HMW.out, HRD.out.le (by omega)⟩
    · obtain ⟨G, rfl, _, hLG, hGl, hfz, hcel⟩ := HO.out.addrI hx1
      clear hfz hcel
      simp only [hl0, Bool.not_true]
      go_upto_if 23 with (go_at_call 62; refine (spec_pick W _ b _ _ HRD.out (rng_sm (by omega) (by omega))).mono ?_; rintro e w3 ⟨k, rfl, hk, hm, hr⟩; have hkb := hk.lt (by omega); have hs3 := (Mw.ofMo hm).size; replace HMW := Lib.hid (HMW.out.tr (Mw.ofMo hm)); replace HO := Lib.hid (HO.out.mo hm (by simp; omega)); replace HRD := Lib.hid hr; clear hk hm hr)
      obtain ⟨hk1, hk2⟩ := hkb
      have hGl3 : G < w3.heap.size := by omega
      obtain rfl | rfl | rfl : k = 0 ∨ k = 1 ∨ k = 2 := by omega
      · simp only [show ((0 : Int) == 0) = true from rfl]
        go_upto_region 9 with (first
          | (go_at_call 62; refine (spec_pick W _ b _ 3 (HRD.out.ext ((Ext.refl w5).alloc _)) (rng_sm (by omega) (by omega))).mono ?_; rintro e w6 ⟨kj, rfl, hk, hm, hr⟩; have hbl5 := HRD.out.lt; obtain ⟨z, hz1, hz2⟩ := lit_pick (zs := [kv, -1, 1099511627776]) hm hbl5 hk rfl (by simp); have hkj := hk.lt (by omega); have hs6 := (Mw.ofMo hm).size; replace HMW := Lib.hid (HMW.out.tr ((Mw.ofExt ((Ext.refl w5).alloc _)).tr (Mw.ofMo hm))); replace HO := Lib.hid ((HO.out.ext ((Ext.refl w5).alloc _)).mo hm (by simp; omega)); replace HRD := Lib.hid hr; obtain ⟨hGl6, hfz, hcel⟩ := HO.out.cellI hx1; obtain ⟨y0, hy0⟩ := hcel ki.toNat (by omega); have hf0 := hfz ki.toNat; clear hk hm hr hfz hcel)
          | (go_at_call 62; refine (spec_pick W w4 b _ 30 HRD.out (rng_sm (by omega) (by omega))).mono ?_; rintro e w5 ⟨kv, rfl, hk, hm, hr⟩; have hkv := hk.lt (by omega); have hs5 := (Mw.ofMo hm).size; replace HMW := Lib.hid (HMW.out.tr (Mw.ofMo hm)); replace HO := Lib.hid (HO.out.mo hm (by simp; omega)); replace HRD := Lib.hid hr; clear hk hm hr)
          | (go_at_call 62; refine (spec_pick W _ b _ (xs.length : Int) HRD.out (rng_sm (by omega) (by omega))).mono ?_; rintro e w4 ⟨ki, rfl, hk, hm, hr⟩; have hki := hk.lt (by omega); have hs4 := (Mw.ofMo hm).size; replace HMW := Lib.hid (HMW.out.tr (Mw.ofMo hm)); replace HO := Lib.hid (HO.out.mo hm (by simp; omega)); replace HRD := Lib.hid hr; clear hk hm hr))
        refine abs_world (fun u => ∃ ys : List Int, ys.length = xs.length ∧ Oo 3 w.heap.size u (.slice (some ⟨G, 0, none⟩) xs.length q5) ys ∧ Mw [b] w u ∧ Rd W u b (m + 1)) ⟨xs.set ki.toNat z, by simp, HO.out.setI (by omega) (by simp only [List.mem_cons, List.not_mem_nil, or_false] at hz2; exact ⟨by omega, by omega⟩), HMW.out.set (.inr hLG) _, HRD.out.set (by show b ≠ G; omega) (by show _ ≤ G; omega) _⟩ ?_
        rintro u ⟨ys, hyl, hoo, hmw, hrd⟩
        clear HO HMW HRD
        have HO := Lib.hid hoo
        have HMW := Lib.hid hmw
        have HRD : Hid (Rd W u b (m + 1)) := Lib.hid hrd
        have HYL := Lib.hid hyl
        have hsu := hmw.size
        clear hoo hmw hrd hyl
        go_wp2_with (first
          | (at_builtin; refine wpl_appB (α := Int) rfl _ _ 29 rfl 3 Try.underlying29 elInt (v := .slice (some ⟨G, 0, none⟩) xs.length q5) (ys := [k9]) rfl (HO7.out.ob.of (fun k _ h => ((Ext.refl w7).alloc _).block k h)) (by omega) ((Ext.refl w7).alloc _).sz rfl rfl (CI.row ⟨by simp, rng_sm (by omega) (by omega), trivial⟩) (by simp) (Own.nil _ _) (by have := HYL.out; simp; omega) ?_; intro v8 w8 hO8 hg8; have HO8 := Lib.hid hO8; have HMW8 := Lib.hid ((HMW7.out.tr (Mw.ofExt ((Ext.refl w7).alloc _))).trF hg8 (fun x hx => by have := Option.some.inj (show some G = some x from Option.mem_toList.1 hx); right; omega)); have HRD8 := Lib.hid ((HRD7.out.ext ((Ext.refl w7).alloc _)).mw hg8 (fun hm => by have := Option.some.inj (show some G = some b from Option.mem_toList.1 hm); omega) (fun x hx => by have := Option.some.inj (show some G = some x from Option.mem_toList.1 hx); omega)); obtain ⟨p8, n8, q8, rfl⟩ := HO8.out.sh; clear hO8 hg8)
          | (go_at_call 62; refine (spec_pick W _ b _ 9 HRD.out (rng_sm (by omega) (by omega))).mono ?_; rintro e w7 ⟨k9, rfl, hk, hm, hr⟩; have hk9 := hk.lt (by omega); obtain ⟨hk91, hk92⟩ := hk9; have hs7 := (Mw.ofMo hm).size; have HMW7 := Lib.hid (HMW.out.tr (Mw.ofMo hm)); have HO7 := Lib.hid (HO.out.mo hm (by simp; omega)); have HRD7 := Lib.hid hr; clear hk hm hr))
        go_ret
        exact ⟨_, ys ++ [k9], rfl, HO8.out.rsb, by have := HYL.out; simp; omega, HMW8.out, HRD8.out⟩
      · simp only [show ((1 : Int) == 0) = false from rfl]
        go_wp2
        go_ret
        exact ⟨_, xs.take (xs.length - 1), rfl, HO.out.rsb.take (by omega), by simp; omega, HMW.out, HRD.out.le (by omega)⟩
      · simp only [show ((2 : Int) == 0) = false from rfl]
        go_upto_region 9 with (fail)
        refine abs_world (fun u => ∃ ys : List Int, ys.length = xs.length ∧ Oo 3 w.heap.size u (.slice (some ⟨G, 0, none⟩) xs.length q5) ys ∧ Mw [b] w u ∧ Rd W u b (m + 1)) ⟨xs, rfl, HO.out, HMW.out, HRD.out.le (by omega)⟩ ?_
        rintro u ⟨ys, hyl, hoo, hmw, hrd⟩
        clear HO HMW HRD
        have HO := Lib.hid hoo
        have HMW := Lib.hid hmw
        have HRD : Hid (Rd W u b (m + 1)) := Lib.hid hrd
        have HYL := Lib.hid hyl
        have hsu := hmw.size
        clear hoo hmw hrd hyl
        go_wp2_with (first
          | (at_builtin; refine wpl_appB (α := Int) rfl _ _ 29 rfl 3 Try.underlying29 elInt (v := .slice (some ⟨G, 0, none⟩) xs.length q5) (ys := [k9]) rfl (HO7.out.ob.of (fun k _ h => ((Ext.refl w7).alloc _).block k h)) (by omega) ((Ext.refl w7).alloc _).sz rfl rfl (CI.row ⟨by simp, rng_sm (by omega) (by omega), trivial⟩) (by simp) (Own.nil _ _) (by have := HYL.out; simp; omega) ?_; intro v8 w8 hO8 hg8; have HO8 := Lib.hid hO8; have HMW8 := Lib.hid ((HMW7.out.tr (Mw.ofExt ((Ext.refl w7).alloc _))).trF hg8 (fun x hx => by have := Option.some.inj (show some G = some x from Option.mem_toList.1 hx); right; omega)); have HRD8 := Lib.hid ((HRD7.out.ext ((Ext.refl w7).alloc _)).mw hg8 (fun hm => by have := Option.some.inj (show some G = some b from Option.mem_toList.1 hm); omega) (fun x hx => by have := Option.some.inj (show some G = some x from Option.mem_toList.1 hx); omega)); obtain ⟨p8, n8, q8, rfl⟩ := HO8.out.sh; clear hO8 hg8)
          | (go_at_call 62; refine (spec_pick W _ b _ 9 HRD.out (rng_sm (by omega) (by omega))).mono ?_; rintro e w7 ⟨k9, rfl, hk, hm, hr⟩; have hk9 := hk.lt (by omega); obtain ⟨hk91, hk92⟩ := hk9; have hs7 := (Mw.ofMo hm).size; have HMW7 := Lib.hid (HMW.out.tr (Mw.ofMo hm)); have HO7 := Lib.hid (HO.out.mo hm (by simp; omega)); have HRD7 := Lib.hid hr; clear hk hm hr))
        go_ret
        exact ⟨_, ys ++ [k9], rfl, HO8.out.rsb, by have := HYL.out; simp; omega, HMW8.out, HRD8.out⟩
end Sk

namespace Sk
open Go Go.Proofs Go.RowKit
set_option maxHeartbeats 1600000
set_option maxRecDepth 100000
set_option linter.unusedVariables false
set_option linter.unusedSimpArgs false
theorem Rvb.openS {L : Nat} {w : World} {v : Value} {s : Setup} (h : Rvb L w v s) : ∃ a0 c0 a1 c1 a2 c2, v = .agg #[.slice a0 s.Parts.length c0, .slice a1 s.Channels.length c1, .slice a2 s.Slots.length c2] ∧ s.Parts.length ≤ 9223372036854775807 ∧ s.Channels.length ≤ 9223372036854775807 ∧ s.Slots.length ≤ 9223372036854775807 := by
  obtain ⟨cs, F, rfl, ⟨v0, v1, v2, F0, F1, F2, rfl, h0, h1, h2, rfl⟩, _⟩ := h
  obtain ⟨a0, c0, rfl, g0⟩ := (show Rs w v0 s.Parts from ⟨_, h0⟩).form
  obtain ⟨a1, c1, rfl, g1⟩ := (show Rs w v1 s.Channels from ⟨_, h1⟩).form
  obtain ⟨a2, c2, rfl, g2⟩ := (show Rs w v2 s.Slots from ⟨_, h2⟩).form
  exact ⟨_, _, _, _, _, _, rfl, g0, g1, g2⟩
theorem Rvb.ext {α : Type} [GT α] {L : Nat} {w w' : World} {v : Value} {x : α} (h : Rvb L w v x) (k : Ext w w') : Rvb L w' v x := by
  obtain ⟨cs, F, h1, h2, h3⟩ := h
  exact ⟨cs, F, h1, GT.ext h2 k, h3⟩
theorem Rvb.set {α : Type} [GT α] {L : Nat} {w : World} {v : Value} {x : α} (h : Rvb L w v x) {p : Addr} (hp : p.block < L) (u : Value) : Rvb L (w.setCell p u) v x := by
  obtain ⟨cs, F, h1, h2, h3⟩ := h
  exact ⟨cs, F, h1, GT.keep h2 (fun k hk => heap_set_ne (by have := h3 k hk; omega)), h3⟩
theorem Rvb.mw {α : Type} [GT α] {L : Nat} {w w' : World} {v : Value} {x : α} {F : List Nat} (h : Rvb L w v x) (k : Mw F w w') (hF : ∀ y ∈ F, y < L) : Rvb L w' v x := by
  obtain ⟨cs, G, h1, h2, h3⟩ := h
  exact ⟨cs, G, h1, k.enc h2 (fun y hy hf => by have := h3 y hy; have := hF y hf; omega), h3⟩
theorem Rvb.mono {α : Type} [GT α] {L L' : Nat} {w : World} {v : Value} {x : α} (h : Rvb L w v x) (k : L' ≤ L) : Rvb L' w v x := by
  obtain ⟨cs, F, h1, h2, h3⟩ := h
  exact ⟨cs, F, h1, h2, fun y hy => Nat.le_trans k (h3 y hy)⟩
end Sk

namespace Sk
open Go Go.Proofs Go.RowKit
set_option maxHeartbeats 1600000
set_option maxRecDepth 100000
set_option linter.unusedVariables false
set_option linter.unusedSimpArgs false
theorem key_lit {w : World} {B : Nat} {T : TypeId} {a c z : Int} (h : Bk w B [.int .i64 a, .int .i64 c, .int .i64 (-1), .int .i64 1048572, .int .i64 1048573] T) (ha : 0 ≤ a ∧ a ≤ 1044735) (hc : 0 ≤ c ∧ c ≤ 255) (hz : 0 ≤ z ∧ z ≤ 4) :
    ∃ y : Int, w.cell? ⟨B, z.toNat, none⟩ = some (.int .i64 y) ∧ -1 ≤ y ∧ y ≤ 1048573 := by
  obtain rfl | rfl | rfl | rfl | rfl : z = 0 ∨ z = 1 ∨ z = 2 ∨ z = 3 ∨ z = 4 := by omega
  · exact ⟨_, h.cell (j := 0) rfl, by omega, by omega⟩
  · exact ⟨_, h.cell (j := 1) rfl, by omega, by omega⟩
  · exact ⟨_, h.cell (j := 2) rfl, by omega, by omega⟩
  · exact ⟨_, h.cell (j := 3) rfl, by omega, by omega⟩
  · exact ⟨_, h.cell (j := 4) rfl, by omega, by omega⟩
theorem spec_l20Key (W w : World) (b m : Nat) (h : Rd W w b (m + 3)) :
    Calls Try.prog 57 #[.pointer (some ⟨b, 0, none⟩)] w fun e w' => ∃ z : Int, e = .returned (.int .i64 z) ∧ (-1 ≤ z ∧ z ≤ 1048573) ∧ Mw [b] w w' ∧ Rd W w' b m := by
  have H := Lib.hid h
  have hbl := h.lt
  clear h
  go_enter Try.func57, Try.ntmps57
  go_wp2_with (first
    | (go_at_call 62; refine (spec_pick W _ b m _ (HR2.out.ext (((Ext.refl w2).alloc _).alloc _)) (rng_sm (by omega) (by omega))).mono ?_; rintro e w3 ⟨k3, rfl, hk, hm, hr⟩; obtain ⟨z, hz1, hz2⟩ := lit_pick (zs := [0, 0, 0, 1, 1, 2, 3, 4]) hm (by simp; omega) hk rfl (by simp); have hk3 := hk.lt (by omega); obtain ⟨hk31, hk32⟩ := hk3; have hzb : 0 ≤ z ∧ z ≤ 4 := (by simp only [List.mem_cons, List.not_mem_nil, or_false] at hz2; omega); rw [show (w2.alloc (.cells #[.int .i64 (k1 * 4097), .int .i64 k2, .int .i64 (-1), .int .i64 1048572, .int .i64 1048573] 3)).heap.size = w2.heap.size + 1 by simp] at hz1; obtain ⟨y, hy1, hy2⟩ := key_lit (z := z) (hm.bk ((Bk.new w2 [.int .i64 (k1 * 4097), .int .i64 k2, .int .i64 (-1), .int .i64 1048572, .int .i64 1048573] 3).ext ((Ext.refl _).alloc _)) (by simp; omega)) (by omega) (by omega) hzb; have hlw := hm.lt; have hlz : w2.heap.size + 1 < w3.heap.size := (by rw [hlw]; simp); obtain ⟨hz3, hz4⟩ := hzb; have HM3 := Lib.hid ((HM2.out.tr (Mw.ofExt (((Ext.refl w2).alloc _).alloc _))).tr (Mw.ofMo hm)); have HR3 := Lib.hid hr; clear hk hm hr hlw)
    | (go_at_call 62; refine (spec_pick W _ b _ _ HR1.out (rng_sm (by omega) (by omega))).mono ?_; rintro e w2 ⟨k2, rfl, hk, hm, hr⟩; have hk2 := hk.lt (by omega); obtain ⟨hk21, hk22⟩ := hk2; have HM2 := Lib.hid (HM1.out.tr (Mw.ofMo hm)); have HR2 := Lib.hid hr; have hl2 := hr.lt; clear hk hm hr)
    | (go_at_call 62; refine (spec_pick W _ b _ _ H.out (rng_sm (by omega) (by omega))).mono ?_; rintro e w1 ⟨k1, rfl, hk, hm, hr⟩; have hk1 := hk.lt (by omega); obtain ⟨hk11, hk12⟩ := hk1; have HM1 : Hid (Mw [b] w w1) := Lib.hid (Mw.ofMo hm); have HR1 := Lib.hid hr; clear hk hm hr))
  go_ret
  exact ⟨_, rfl, hy2, HM3.out, HR3.out⟩
end Sk

