/- Contracts of functions of the given program, and lemmas for them: each theorem states the condition under which it holds. -/
import Derived.Test.YtoekeafibhnkgaaChecked
import Derived.Deep.CutBlock
import Derived.Deep.CutRange
import Derived.Test.YtoekeafibhnkgaaDrawPol
namespace Sk
open Go Go.Proofs Go.RowKit
set_option maxHeartbeats 1600000
set_option maxRecDepth 100000
set_option linter.unusedVariables false
set_option linter.unusedSimpArgs false
theorem Mw.cell0 {F : List Nat} {a b : World} (h : Mw F a b) {p o : Nat} {x : Value} (hc : a.cell? ⟨p, o, none⟩ = some x) (hp : p ∉ F) (hl : p < a.heap.size) : b.cell? ⟨p, o, none⟩ = some x := (h.cell hp hl).trans hc
theorem lit7 {n : Int} {k : Nat} (hn1 : -1 ≤ n) (hn2 : n ≤ 6) (hk : k < 7) : ∃ z : Int, [Value.int .i64 n, .int .i64 n, .int .i64 n, .int .i64 n, .int .i64 n, .int .i64 (-1), .int .i64 6][k]? = some (.int .i64 z) ∧ -1 ≤ z ∧ z ≤ 6 := by
  obtain rfl | rfl | rfl | rfl | rfl | rfl | rfl : k = 0 ∨ k = 1 ∨ k = 2 ∨ k = 3 ∨ k = 4 ∨ k = 5 ∨ k = 6 := by omega
  all_goals exact ⟨_, rfl, by omega, by omega⟩
theorem spec_DrawPolicyValid (v : Value) (xs : List By) (w : World) (h : Rs w v xs) :
    Calls Try.prog 4 #[v] w fun e w' => ∃ (v' : Value) (ps : List (List Bool)) (z : Int), e = .returned (.tuple #[v', .int .i64 z]) ∧ Rsb w.heap.size w' v' ps ∧ -1 ≤ z ∧ z ≤ 6 ∧ Ext w w' := by
  have H := Lib.hid h
  clear h
  go_enter Try.func4, Try.ntmps4
  go_upto_region 3 with (first
    | (go_at_call 8; refine (spec_l20Open _ _ _ H.out).mono ?_; rintro e w1 ⟨b, rfl, hb, he, hr⟩; have HE := Lib.hid he; have HR : Hid (Rd w w1 b 1000) := Lib.hid (hr.le (by omega)); clear he hr)
    | (go_at_call 9; refine (spec_pick w _ b 999 _ HR.out (rng_sm (by omega) (by omega))).mono ?_; rintro e w2 ⟨k, rfl, hk, hm, hr⟩; have hkb := hk.lt (by omega); have HE2 := Lib.hid ((Mw.ofMo hm).ext HE.out (by simpa using hb)); have HR2 := Lib.hid hr; clear hk hm hr))
  obtain ⟨hk1, hk2⟩ := hkb
  obtain ⟨K, rfl⟩ : ∃ K : Nat, k = K := ⟨k.toNat, by omega⟩
  have hK : K ≤ 5 := by omega
  have hbl := HR2.out.lt
  clear hk1 hk2 HR HE
  have hF0 : ∀ k ∈ [b], k < w2.heap.size := by simpa using hbl
  have hsz := HE2.out.sz
  refine wp_region_thr rfl 14 [(10, [10]), (11, [11]), (12, [12]), (13, [13]), (14, [14]), (15, [15]), (16, [16]), (17, [17]), (18, [18]), (19, [19]), (20, [20]), (21, [21]), (22, [22]), (2, [2])]
    (fun i vs u F => match i, vs with
      | 0, [y] => y = .pointer (some ⟨b, 0, none⟩)
      | 1, [y] => y = .int .i64 K
      | 2, [y] => ∃ ps : List (List Bool), Rsb w2.heap.size u y ps
      | 3, [y] => y = .int .i64 K
      | 4, [y] => y = .int .i64 K
      | 5, [y] => y = .int .i64 K
      | 6, [y] => y = .int .i64 K
      | 7, [y] => y = .int .i64 K
      | 8, [y] => ∃ lb, y = .slice (some ⟨lb, 0, none⟩) 7 7 ∧ w2.heap.size ≤ lb ∧ Bk u lb [.int .i64 K, .int .i64 K, .int .i64 K, .int .i64 K, .int .i64 K, .int .i64 (-1), .int .i64 6] 3
      | 9, [y] => y = .pointer (some ⟨b, 0, none⟩)
      | 10, [y] => ∃ k : Nat, y = .int .i64 k ∧ k < 7
      | 11, [y] => ∃ (lb k : Nat) (z : Int), y = .pointer (some ⟨lb, k, none⟩) ∧ w2.heap.size ≤ lb ∧ lb < u.heap.size ∧ u.cell? ⟨lb, k, none⟩ = some (.int .i64 z) ∧ -1 ≤ z ∧ z ≤ 6
      | 12, [y] => ∃ z : Int, y = .int .i64 z ∧ -1 ≤ z ∧ z ≤ 6
      | 13, [y] => ∃ ps : List (List Bool), Rsb w2.heap.size u y ps
      | _, _ => False) [b] hF0 [2, 10] (fun c vs u => match c with
      | 0 => Rd w u b 999
      | 1 => Rd w u b 500
      | _ => Rd w u b 100) (by decide +kernel) (by decide +kernel) (fun w2 h => HR2.out.ext h) ?_ ?_ ?_
  · intro i hi hnt o ho U u F hE hd hap
    rcases (by omega : i = 0 ∨ i = 1 ∨ i = 2 ∨ i = 3 ∨ i = 4 ∨ i = 5 ∨ i = 6 ∨ i = 7 ∨ i = 8 ∨ i = 9 ∨ i = 10 ∨ i = 11 ∨ i = 12 ∨ i = 13) with rfl | rfl | rfl | rfl | rfl | rfl | rfl | rfl | rfl | rfl | rfl | rfl | rfl | rfl
    · cases ho
      simp only [putAll_toArray, put_toArray, List.map_cons, List.map_nil, setL, List.set_cons_succ, List.set_cons_zero, Bd.d, List.getD_cons_succ, List.getD_cons_zero]
      intro K hK
      go_wp2
      exact hK _ [] _ (Ext.refl u) (fun _ _ => rfl) (Own.nil _ _)
    · cases ho
      simp only [putAll_toArray, put_toArray, List.map_cons, List.map_nil, setL, List.set_cons_succ, List.set_cons_zero, Bd.d, List.getD_cons_succ, List.getD_cons_zero]
      intro K hK
      go_wp2
      exact hK _ [] _ (Ext.refl u) (fun _ _ => rfl) (Own.nil _ _)
    · exact absurd (by decide) hnt
    · cases ho
      simp only [putAll_toArray, put_toArray, List.map_cons, List.map_nil, setL, List.set_cons_succ, List.set_cons_zero, Bd.d, List.getD_cons_succ, List.getD_cons_zero]
      intro K hK
      go_wp2
      exact hK _ [] _ (Ext.refl u) (fun _ _ => rfl) (Own.nil _ _)
    · cases ho
      simp only [putAll_toArray, put_toArray, List.map_cons, List.map_nil, setL, List.set_cons_succ, List.set_cons_zero, Bd.d, List.getD_cons_succ, List.getD_cons_zero]
      intro K hK
      go_wp2
      exact hK _ [] _ (Ext.refl u) (fun _ _ => rfl) (Own.nil _ _)
    · cases ho
      simp only [putAll_toArray, put_toArray, List.map_cons, List.map_nil, setL, List.set_cons_succ, List.set_cons_zero, Bd.d, List.getD_cons_succ, List.getD_cons_zero]
      intro K hK
      go_wp2
      exact hK _ [] _ (Ext.refl u) (fun _ _ => rfl) (Own.nil _ _)
    · cases ho
      simp only [putAll_toArray, put_toArray, List.map_cons, List.map_nil, setL, List.set_cons_succ, List.set_cons_zero, Bd.d, List.getD_cons_succ, List.getD_cons_zero]
      intro K hK
      go_wp2
      exact hK _ [] _ (Ext.refl u) (fun _ _ => rfl) (Own.nil _ _)
    · cases ho
      simp only [putAll_toArray, put_toArray, List.map_cons, List.map_nil, setL, List.set_cons_succ, List.set_cons_zero, Bd.d, List.getD_cons_succ, List.getD_cons_zero]
      intro K hK
      go_wp2
      exact hK _ [] _ (Ext.refl u) (fun _ _ => rfl) (Own.nil _ _)
    · cases ho
      simp only [putAll_toArray, put_toArray, List.map_cons, List.map_nil, setL, List.set_cons_succ, List.set_cons_zero, Bd.d, List.getD_cons_succ, List.getD_cons_zero]
      have d3 := (hd 3 (by decide +kernel)).1
      have d4 := (hd 4 (by decide +kernel)).1
      have d5 := (hd 5 (by decide +kernel)).1
      have d6 := (hd 6 (by decide +kernel)).1
      have d7 := (hd 7 (by decide +kernel)).1
      simp only [Bd.u, List.getD_cons_succ, List.getD_cons_zero, List.map_cons, List.map_nil] at d3 d4 d5 d6 d7
      try simp only [d3, d4, d5, d6, d7]
      intro K2 hK2
      go_wp2
      have b1 := Bk.new u [.int .i64 (K : Int), .int .i64 K, .int .i64 K, .int .i64 K, .int .i64 K, .int .i64 (-1), .int .i64 6] 3
      exact hK2 _ [] _ ((Ext.refl u).alloc _) (fun _ h => ⟨_, rfl, hE.size, h.bk b1 (fun hm => by have := hF0 _ hm; have := hE.size; omega)⟩) (Own.nil _ _)
    · cases ho
      simp only [putAll_toArray, put_toArray, List.map_cons, List.map_nil, setL, List.set_cons_succ, List.set_cons_zero, Bd.d, List.getD_cons_succ, List.getD_cons_zero]
      intro K hK
      go_wp2
      exact hK _ [] _ (Ext.refl u) (fun _ _ => rfl) (Own.nil _ _)
    · exact absurd (by decide) hnt
    · cases ho
      simp only [putAll_toArray, put_toArray, List.map_cons, List.map_nil, setL, List.set_cons_succ, List.set_cons_zero, Bd.d, List.getD_cons_succ, List.getD_cons_zero]
      have d0 := (hd 0 (by decide +kernel)).1
      have d1 := (hd 1 (by decide +kernel)).1
      have d2 := (hd 2 (by decide +kernel)).1
      have o2 := (hd 2 (by decide +kernel)).2
      have d3 := (hd 3 (by decide +kernel)).1
      have d4 := (hd 4 (by decide +kernel)).1
      have d5 := (hd 5 (by decide +kernel)).1
      have d6 := (hd 6 (by decide +kernel)).1
      have d7 := (hd 7 (by decide +kernel)).1
      have d8 := (hd 8 (by decide +kernel)).1
      have o8 := (hd 8 (by decide +kernel)).2
      have d9 := (hd 9 (by decide +kernel)).1
      have d10 := (hd 10 (by decide +kernel)).1
      have o10 := (hd 10 (by decide +kernel)).2
      simp only [Bd.u, List.getD_cons_succ, List.getD_cons_zero, List.map_cons, List.map_nil] at d0 d1 d2 d3 d4 d5 d6 d7 d8 d9 d10
      try simp only [d0, d1, d3, d4, d5, d6, d7, d9]
      obtain ⟨lb, g0, g1, g2⟩ := d8
      obtain ⟨k, g3, g4⟩ := d10
      simp only [g0, g3]
      obtain ⟨z, h1, h2, h3⟩ := lit7 (n := K) (k := k) (by omega) (by omega) g4
      have hc := g2.cell h1
      have hlb := g2.lt
      have HG := Lib.hid g2
      clear g2 g0 g3
      intro K2 hK2
      go_wp2
      exact hK2 _ [] _ (Ext.refl u) (fun _ h => ⟨lb, k, z, rfl, g1, Nat.lt_of_lt_of_le hlb h.size, h.cell0 hc (fun hm => by have := hF0 _ hm; omega) hlb, h2, h3⟩) (Own.nil _ _)
    · cases ho
      simp only [putAll_toArray, put_toArray, List.map_cons, List.map_nil, setL, List.set_cons_succ, List.set_cons_zero, Bd.d, List.getD_cons_succ, List.getD_cons_zero]
      have d0 := (hd 0 (by decide +kernel)).1
      have d1 := (hd 1 (by decide +kernel)).1
      have d2 := (hd 2 (by decide +kernel)).1
      have o2 := (hd 2 (by decide +kernel)).2
      have d3 := (hd 3 (by decide +kernel)).1
      have d4 := (hd 4 (by decide +kernel)).1
      have d5 := (hd 5 (by decide +kernel)).1
      have d6 := (hd 6 (by decide +kernel)).1
      have d7 := (hd 7 (by decide +kernel)).1
      have d8 := (hd 8 (by decide +kernel)).1
      have o8 := (hd 8 (by decide +kernel)).2
      have d9 := (hd 9 (by decide +kernel)).1
      have d10 := (hd 10 (by decide +kernel)).1
      have o10 := (hd 10 (by decide +kernel)).2
      have d11 := (hd 11 (by decide +kernel)).1
      have o11 := (hd 11 (by decide +kernel)).2
      simp only [Bd.u, List.getD_cons_succ, List.getD_cons_zero, List.map_cons, List.map_nil] at d0 d1 d2 d3 d4 d5 d6 d7 d8 d9 d10 d11
      try simp only [d0, d1, d3, d4, d5, d6, d7, d9]
      obtain ⟨lb, k, z, g0, g1, g2, g3, g4, g5⟩ := d11
      simp only [g0]
      intro K2 hK2
      go_wp2
      exact hK2 _ [] _ (Ext.refl u) (fun _ h => ⟨z, rfl, g4, g5⟩) (Own.nil _ _)
    · cases ho
      simp only [putAll_toArray, put_toArray, List.map_cons, List.map_nil, setL, List.set_cons_succ, List.set_cons_zero, Bd.d, List.getD_cons_succ, List.getD_cons_zero]
      have d0 := (hd 0 (by decide +kernel)).1
      have d1 := (hd 1 (by decide +kernel)).1
      have d2 := (hd 2 (by decide +kernel)).1
      have o2 := (hd 2 (by decide +kernel)).2
      have d9 := (hd 9 (by decide +kernel)).1
      have d10 := (hd 10 (by decide +kernel)).1
      have o10 := (hd 10 (by decide +kernel)).2
      simp only [Bd.u, List.getD_cons_succ, List.getD_cons_zero, List.map_cons, List.map_nil] at d0 d1 d2 d9 d10
      try simp only [d0, d1, d9]
      obtain ⟨ps, g0⟩ := d2
      have HG := Lib.hid g0
      obtain ⟨p, n, q, g1⟩ : ∃ a n c, U 12 = .slice a n c := by obtain ⟨a, c, h, _⟩ := Rsb.form g0; exact ⟨_, _, _, h⟩
      clear g0
      simp only [g1] at HG ⊢
      intro K2 hK2
      go_wp2
      exact hK2 _ [] _ (Ext.refl u) (fun _ h => ⟨ps, HG.out.mw h hF0⟩) (Own.nil _ _)
  · intro c i hc o ho U u F hE hd hap ht
    rcases c with _ | _ | c
    · cases hc
      cases ho
      simp only [putAll_toArray, put_toArray, List.map_cons, List.map_nil, setL, List.set_cons_succ, List.set_cons_zero, Bd.d, List.getD_cons_succ, List.getD_cons_zero]
      have d0 := (hd 0 (by decide +kernel)).1
      have d1 := (hd 1 (by decide +kernel)).1
      simp only [Bd.u, List.getD_cons_succ, List.getD_cons_zero, List.map_cons, List.map_nil] at d0 d1
      try simp only [d0, d1]
      have HT : Hid (Rd w u b (500 + 40)) := Lib.hid (Rd.le (m := 999) ht (by omega))
      have hsu := hE.size
      have HE := Lib.hid hE
      clear ht hE
      intro K2 hK2
      go_wp2_with (go_at_call 10; refine (spec_l20Policy w _ b 500 K _ HT.out hK (by omega) (by omega)).mono ?_; rintro e w3 ⟨v3, ps, rfl, hp, hpl, hm, hr⟩)
      exact hK2 _ [] _ hm (fun w3 h => hr.ext h) (fun _ h => ⟨ps, (hp.mono hsu).mw h hF0⟩) (Own.nil _ _)
    · cases hc
      cases ho
      simp only [putAll_toArray, put_toArray, List.map_cons, List.map_nil, setL, List.set_cons_succ, List.set_cons_zero, Bd.d, List.getD_cons_succ, List.getD_cons_zero]
      have d0 := (hd 0 (by decide +kernel)).1
      have d1 := (hd 1 (by decide +kernel)).1
      have d2 := (hd 2 (by decide +kernel)).1
      have o2 := (hd 2 (by decide +kernel)).2
      have d9 := (hd 9 (by decide +kernel)).1
      simp only [Bd.u, List.getD_cons_succ, List.getD_cons_zero, List.map_cons, List.map_nil] at d0 d1 d2 d9
      try simp only [d0, d1, d9]
      have HT : Hid (Rd w u b (100 + 1)) := Lib.hid (Rd.le (m := 500) ht (by omega))
      clear ht
      intro K2 hK2
      go_wp2_with (go_at_call 9; refine (spec_pick w _ b 100 _ HT.out (rng_sm (by omega) (by omega))).mono ?_; rintro e w3 ⟨k3, rfl, hk, hm, hr⟩; have hkb := hk.lt (by omega))
      obtain ⟨q1, q2⟩ := hkb
      exact hK2 _ [] _ (Mw.ofMo hm) (fun w3 h => hr.ext h) (fun _ h => ⟨k3.toNat, congrArg (Value.int .i64) (Int.toNat_of_nonneg q1).symm, by omega⟩) (Own.nil _ _)
    · cases hc
  · intro o ho U u F hE hφ hap ht
    cases ho
    simp only [putAll_toArray, put_toArray, List.map_cons, List.map_nil, setL, List.set_cons_succ, List.set_cons_zero, Bd.d, List.getD_cons_succ, List.getD_cons_zero]
    have d0 := (hφ 0 (by omega)).1
    have d1 := (hφ 1 (by omega)).1
    have d2 := (hφ 2 (by omega)).1
    have o2 := (hφ 2 (by omega)).2
    have d3 := (hφ 3 (by omega)).1
    have d4 := (hφ 4 (by omega)).1
    have d5 := (hφ 5 (by omega)).1
    have d6 := (hφ 6 (by omega)).1
    have d7 := (hφ 7 (by omega)).1
    have d8 := (hφ 8 (by omega)).1
    have o8 := (hφ 8 (by omega)).2
    have d9 := (hφ 9 (by omega)).1
    have d10 := (hφ 10 (by omega)).1
    have o10 := (hφ 10 (by omega)).2
    have d11 := (hφ 11 (by omega)).1
    have o11 := (hφ 11 (by omega)).2
    have d12 := (hφ 12 (by omega)).1
    have o12 := (hφ 12 (by omega)).2
    have d13 := (hφ 13 (by omega)).1
    have o13 := (hφ 13 (by omega)).2
    simp only [Bd.u, List.getD_cons_succ, List.getD_cons_zero, List.map_cons, List.map_nil] at d0 d1 d2 d3 d4 d5 d6 d7 d8 d9 d10 d11 d12 d13
    try simp only [d0, d1, d3, d4, d5, d6, d7, d9]
    obtain ⟨z, g0, g1, g2⟩ := d12
    obtain ⟨ps, g3⟩ := d13
    obtain ⟨p, n, q, g4⟩ : ∃ a n c, U 2 = .slice a n c := by obtain ⟨a, c, h, _⟩ := Rsb.form g3; exact ⟨_, _, _, h⟩
    have HP := Lib.hid (Rsb.mono g3 hsz)
    have HE := Lib.hid (hE.ext HE2.out (by simpa using hb))
    clear g3 hE ht hap hφ
    simp only [g0, g4] at HP ⊢
    go_wp2
    refine bodyPost_ret (v := .tuple #[.slice p n q, .int .i64 z]) (by simp [results, Try.results4, go_sem]) rfl ⟨_, ps, z, rfl, HP.out, g1, g2, HE.out⟩
end Sk

