/- Contracts of functions of the given program, and lemmas for them: each theorem states the condition under which it holds. -/
import Derived.Test.YtiepblmmldgmgaaChecked
import Derived.Deep.CutBlock
import Derived.Deep.CutRange
import Derived.Test.YtiepblmmldgmgaaDel
import Derived.Test.YtiepblmmldgmgaaNumsS
import Derived.Test.YtiepblmmldgmgaaSealL
import Derived.Test.YtiepblmmldgmgaaReadS
import Derived.Test.YtiepblmmldgmgaaDrawPV
import Derived.Test.YtiepblmmldgmgaaBuild
namespace Sk
open Go Go.Proofs Go.RowKit
set_option maxHeartbeats 4000000
set_option maxRecDepth 100000
set_option linter.unusedVariables false
set_option linter.unusedSimpArgs false
/-- A number (of type 3) of an owned list. -/
theorem Oo.atI {L G : Nat} {w : World} {n c : Nat} {xs : List Int} (h : Oo 3 L w (.slice (some ⟨G, 0, none⟩) n c) xs) (i : Nat) (hi : i < xs.length) :
    ∃ y : Int, xs[i]? = some y ∧ w.cell? ⟨G, i, none⟩ = some (.int .i64 y) := by
  obtain ⟨F, hA, ho⟩ := h
  rcases hA with ⟨h, _⟩ | ⟨G, cap, cur, he, hL, hg, hl, hc, hs, hr, hn⟩
  · cases h
  · cases he
    obtain ⟨cs0, F1, x0, hx1, hx0, hxa, _⟩ := hr.get i hi
    obtain ⟨rfl, _, rfl⟩ := hx0
    have h0 := hxa 0 _ rfl
    simp only [GT.sz, Nat.mul_one, Nat.zero_add, Nat.add_zero] at h0
    exact ⟨x0, hx1, h0⟩
theorem lawSealSetup (v : Value) (xs : List By) (v1 : Value) (ms : List By) (w : World) (h : Rs w v xs) (h1 : Rs w v1 ms) :
    Calls Try.prog 7 #[v, v1] w fun e w' => e = .returned (.bool true) ∧ Ext w w' := by
  obtain ⟨a, c, rfl, hl⟩ := h.form
  obtain ⟨a', c', rfl, hl'⟩ := h1.form
  have H := Lib.hid h
  clear h h1
  by_cases hx : xs.length ≤ 1048576
  rotate_left
  · have hx2 : 1048576 < xs.length := by omega
    clear hx
    go_enter Try.func7, Try.ntmps7
    go_wp2
    go_ret
    exact ⟨rfl, Ext.refl w⟩
  by_cases hx' : ms.length ≤ 1048576
  rotate_left
  · have hx2 : 1048576 < ms.length := by omega
    clear hx'
    go_enter Try.func7, Try.ntmps7
    go_wp2
    go_ret
    exact ⟨rfl, Ext.refl w⟩
  go_enter Try.func7, Try.ntmps7
  go_upto_region 4 with (go_at_call 26; refine (spec_DrawSealSetup _ _ _ H.out).mono ?_; rintro e w1 ⟨v', s, key, rfl, hp, hds, hz1, hz2, he⟩; obtain ⟨a0, c0, a1, c1, a2, c2, rfl, hl0, hl1, hl2⟩ := hp.openS; have HP := Lib.hid hp.rv; have HE := Lib.hid he; clear hp he hds)
  refine abs_world (fun W1 => Ext w1 W1 ∧ Bk W1 w1.heap.size [.slice a0 s.Parts.length c0, .slice a1 s.Channels.length c1, .slice a2 s.Slots.length c2] 27) ⟨(Ext.refl _).alloc _, Bk.new _ _ _⟩ ?_
  rintro W1 ⟨e1, kA⟩
  have HE1 := Lib.hid (HE.out.tr e1)
  have KA := Lib.hid kA
  have hA := kA.lt
  have d0 := kA.cell (j := 0) rfl
  have d1 := kA.cell (j := 1) rfl
  have d2 := kA.cell (j := 2) rfl
  replace HP := Lib.hid (HP.out.ext e1)
  clear e1 kA HE
  obtain ⟨L, hL⟩ : ∃ L, M.sealed s key = L := ⟨_, rfl⟩
  go_upto_region 5 with (go_at_call 27; refine (impl_SealSetup _ s key _ HP.out).mono ?_; rintro e w2 ⟨v2, rfl, ho, he⟩; rw [hL] at ho; obtain ⟨p2, q2, rfl, hq2⟩ := ho.rs.form; have HO := Lib.hid ho.rs; have HE2 := Lib.hid he; have KA2 := KA.out.ext he; have b0 := KA2.cell (j := 0) rfl; have b1 := KA2.cell (j := 1) rfl; have b2 := KA2.cell (j := 2) rfl; have hA2 := KA2.lt; clear ho he)
  go_upto_if 36 with (first
    | (go_at_call 28; refine (spec_SealSetup _ s key _ (HP.out.ext HE2.out)).mono ?_; rintro e w3 ⟨v3, rfl, ho, he⟩; rw [hL] at ho; have HO3 := Lib.hid ho.rs; obtain ⟨p3, q3, rfl, hq3⟩ := ho.form; have HE3 := Lib.hid he; clear ho he)
    | (go_at_call 11; refine (law_sameInts _ _ L L _ (HO.out.ext HE3.out) HO3.out).mono ?_; rintro e w4 ⟨rfl, he⟩; have HE4 := Lib.hid he; clear he))
  rw [Eqb.t (rfl : L = L)]
  simp only [Bool.not_true]
  have HS := Lib.hid ((HE1.out.tr HE2.out).tr (HE3.out.tr HE4.out))
  have HX := Lib.hid (HE3.out.tr HE4.out)
  have KA4 := KA2.ext HX.out
  have hA4 := KA4.lt
  replace HO := Lib.hid (HO.out.ext HX.out)
  replace HP := Lib.hid (HP.out.ext (HE2.out.tr HX.out))
  clear b0 b1 b2 d0 d1 d2 KA KA2 HE1 HE2 HE3 HE4 HX HO3 hA hA2 H
  by_cases hne : L = []
  · subst hne
    go_wp2_with (go_at_call 13; refine (law_alive _).mono ?_; rintro e w6 ⟨rfl, he⟩; have HE6 := Lib.hid he; clear he)
    go_ret
    exact ⟨rfl, HS.out.tr HE6.out⟩
  obtain ⟨t1, t2, t3, ⟨hk0, hk1⟩, hle⟩ := M.seal_facts hL hne
  have hpos : 0 < L.length := List.length_pos_iff.2 hne
  have hzi : ((L.length : Int) == 0) = false := beq_eq_false_iff_ne.2 (by omega)
  have T1 := Lib.hid t1
  have T2 := Lib.hid t2
  have T3 := Lib.hid t3
  replace hL := Lib.hid hL
  have hmod : (key + 1).tmod 1048573 = (key + 1) % 1048573 := Int.tmod_eq_emod_of_nonneg (by omega)
  clear t1 t2 t3 hne
  obtain ⟨g4, o4, rfl, _, hg4, HROW⟩ := Os.copy HO.out hpos
  go_upto_region 10 with (go_at_call 29; refine (impl_OpenSetup _ L key _ HO.out).mono ?_; rintro e w5 ⟨v5, rfl, ho, he⟩; rw [T1.out] at ho ⊢; simp only at ho ⊢; obtain ⟨x0, y0, x1, y1, x2, y2, rfl, _⟩ := ho.rv.openSetup; have HX5 := Lib.hid ho.rv; have HE5 := Lib.hid he; clear ho he)
  refine abs_world (fun W5 => Ext w5 W5 ∧ Bk W5 w5.heap.size [.slice x0 s.Parts.length y0, .slice x1 s.Channels.length y1, .slice x2 s.Slots.length y2] 27) ⟨(Ext.refl _).alloc _, Bk.new _ _ _⟩ ?_
  rintro W5 ⟨e5, kB⟩
  have HE6 := Lib.hid (HE5.out.tr e5)
  have KB := Lib.hid kB
  replace HX5 := Lib.hid (HX5.out.ext e5)
  clear e5 kB HE5
  go_upto_region 11 with (go_at_call 29; refine (impl_OpenSetup _ L ((key + 1) % 1048573) _ (HO.out.ext HE6.out)).mono ?_; rintro e w7 ⟨v7, rfl, ho, he⟩; rw [T2.out] at ho ⊢; simp only at ho ⊢; obtain ⟨z0, u0, z1, u1, z2, u2, rfl, _⟩ := ho.rv.openSetup; have HE7 := Lib.hid (HE6.out.tr he); have HE75 := Lib.hid he; clear ho he)
  refine abs_world (fun W7 => Ext w7 W7) ((Ext.refl _).alloc _) ?_
  intro W7 e7
  have HE8 := Lib.hid (HE7.out.tr e7)
  have HE85 := Lib.hid (HE75.out.tr e7)
  clear e7 HE7 HE75 hmod
  go_upto_region 12 with (at_builtin; refine wpl_appO (u := W7.alloc _) (α := Int) rfl _ _ 29 rfl 3 Try.underlying29 elInt (v := .slice (some ⟨W7.heap.size, 0, none⟩) 0 0) (ys := L) rfl (Oo.lit0 (α := Int) 3 W7) (Ext.refl _) ((Ext.refl _).alloc _).sz rfl rfl (HROW.out.keep ((HE8.out.alloc _).block _ hg4) (fun k hk => by cases hk)) hpos (Own.nil _ _) (by simp; omega) ?_; intro v6 w8 hO6 hg6; have HO8 := Lib.hid (show Oo 3 W7.heap.size w8 v6 L from hO6); have HE9 := Lib.hid (Ext.grown ((Ext.refl W7).alloc _) hg6 (fun k hk => by simp only [Value.ownBlock, Option.some.injEq] at hk; omega)); obtain ⟨p6, n6, q6, rfl⟩ := hO6.sh; clear hO6 hg6)
  obtain ⟨G, rfl, rfl, hLG, hGl, hfz, _⟩ := HO8.out.addrI hpos
  have hq6 := HO8.out.cap
  have hm1 : (ms.length : Int).tmod (L.length : Int) = ((ms.length % L.length : Nat) : Int) := (Int.ofNat_tmod _ _).symm
  have hI : ms.length % L.length < L.length := Nat.mod_lt _ hpos
  generalize ms.length % L.length = I at *
  obtain ⟨x, hxI, hcI⟩ := HO8.out.atI I hI
  have hfI := hfz I
  obtain ⟨hxb, hop⟩ := T3.out I x hxI
  have hxr : rng (bits .xor .i64 x 1) := by
    obtain ⟨y, hy, _, _⟩ := xor_one_ne (x := x) hxb.1 hxb.2
    have := xor_one (x := x) hxb.1 (by omega)
    rw [this]
    exact ⟨by omega, by omega⟩
  clear hfz hzi
  replace HO8 := Lib.hid HO8.out.ob
  generalize hLn : L.length = len at *
  replace hLn := Lib.hid hLn
  have hlz : (len : Int) ≠ 0 := by omega
  refine wp_region_tab rfl 16 [(58, [58]), (59, [59]), (60, [60]), (61, [61]), (62, [62]), (63, [63]), (64, [64]), (65, [65]), (66, [66]), (67, [67]), (68, [68]), (69, [69]), (70, [70]), (71, [71]), (72, [72]), (73, [73])]
    (fun i vs u F => match i, vs with
      | 0, [y] => y = .slice (some ⟨G, 0, none⟩) len q6
      | 1, [y] => y = .slice a' ms.length c'
      | 2, [y] => y = .int .i64 ms.length
      | 3, [y] => y = .slice (some ⟨G, 0, none⟩) len q6
      | 4, [y] => y = .int .i64 len
      | 5, [y] => y = .int .i64 I
      | 6, [y] => y = .slice (some ⟨G, 0, none⟩) len q6
      | 7, [y] => y = .slice a' ms.length c'
      | 8, [y] => y = .int .i64 ms.length
      | 9, [y] => y = .slice (some ⟨G, 0, none⟩) len q6
      | 10, [y] => y = .int .i64 len
      | 11, [y] => y = .int .i64 I
      | 12, [y] => y = .pointer (some ⟨G, I, none⟩)
      | 13, [y] => y = .int .i64 x
      | 14, [y] => y = .int .i64 (bits .xor .i64 x 1)
      | 15, [y] => y = .pointer (some ⟨G, I, none⟩)
      | _, _ => False) (by decide +kernel) ?_ ?_
  · intro i hi o ho U u F hE hd hap
    have e0 := (cell_ext hE hGl).trans hcI
    rcases (by omega : i = 0 ∨ i = 1 ∨ i = 2 ∨ i = 3 ∨ i = 4 ∨ i = 5 ∨ i = 6 ∨ i = 7 ∨ i = 8 ∨ i = 9 ∨ i = 10 ∨ i = 11 ∨ i = 12 ∨ i = 13 ∨ i = 14 ∨ i = 15) with rfl | rfl | rfl | rfl | rfl | rfl | rfl | rfl | rfl | rfl | rfl | rfl | rfl | rfl | rfl | rfl
    · cases ho
      simp only [putAll_toArray, put_toArray, List.map_cons, List.map_nil, setL, List.set_cons_succ, List.set_cons_zero, Bd.d, List.getD_cons_succ, List.getD_cons_zero]
      intro K hK
      go_wp2
      exact hK _ [] _ (Ext.refl u) (fun _ _ => rfl) (Own.nil _ _)
    · cases ho
      simp only [putAll_toArray, put_toArray, List.map_cons, List.map_nil, setL, List.set_cons_succ, List.set_cons_zero, Bd.d, List.getD_cons_succ, List.getD_cons_zero]
      intro K hK
      go_wp2
      exact hK _ [] _ (Ext.refl u) (fun _ _ => rfl) (Own.nil _ _)
    · cases ho
      simp only [putAll_toArray, put_toArray, List.map_cons, List.map_nil, setL, List.set_cons_succ, List.set_cons_zero, Bd.d, List.getD_cons_succ, List.getD_cons_zero]
      have d1 := (hd 1 (by decide +kernel)).1
      simp only [Bd.u, List.getD_cons_succ, List.getD_cons_zero, List.map_cons, List.map_nil] at d1
      try simp only [d1]
      clear d1
      intro K hK
      go_wp2
      exact hK _ [] _ (Ext.refl u) (fun _ _ => rfl) (Own.nil _ _)
    · cases ho
      simp only [putAll_toArray, put_toArray, List.map_cons, List.map_nil, setL, List.set_cons_succ, List.set_cons_zero, Bd.d, List.getD_cons_succ, List.getD_cons_zero]
      intro K hK
      go_wp2
      exact hK _ [] _ (Ext.refl u) (fun _ _ => rfl) (Own.nil _ _)
    · cases ho
      simp only [putAll_toArray, put_toArray, List.map_cons, List.map_nil, setL, List.set_cons_succ, List.set_cons_zero, Bd.d, List.getD_cons_succ, List.getD_cons_zero]
      have d3 := (hd 3 (by decide +kernel)).1
      simp only [Bd.u, List.getD_cons_succ, List.getD_cons_zero, List.map_cons, List.map_nil] at d3
      try simp only [d3]
      clear d3
      intro K hK
      go_wp2
      exact hK _ [] _ (Ext.refl u) (fun _ _ => rfl) (Own.nil _ _)
    · cases ho
      simp only [putAll_toArray, put_toArray, List.map_cons, List.map_nil, setL, List.set_cons_succ, List.set_cons_zero, Bd.d, List.getD_cons_succ, List.getD_cons_zero]
      have d1 := (hd 1 (by decide +kernel)).1
      have d2 := (hd 2 (by decide +kernel)).1
      have d3 := (hd 3 (by decide +kernel)).1
      have d4 := (hd 4 (by decide +kernel)).1
      simp only [Bd.u, List.getD_cons_succ, List.getD_cons_zero, List.map_cons, List.map_nil] at d1 d2 d3 d4
      try simp only [d1, d2, d3, d4]
      clear d1 d2 d3 d4
      intro K hK
      go_wp2
      exact hK _ [] _ (Ext.refl u) (fun _ _ => rfl) (Own.nil _ _)
    · cases ho
      simp only [putAll_toArray, put_toArray, List.map_cons, List.map_nil, setL, List.set_cons_succ, List.set_cons_zero, Bd.d, List.getD_cons_succ, List.getD_cons_zero]
      intro K hK
      go_wp2
      exact hK _ [] _ (Ext.refl u) (fun _ _ => rfl) (Own.nil _ _)
    · cases ho
      simp only [putAll_toArray, put_toArray, List.map_cons, List.map_nil, setL, List.set_cons_succ, List.set_cons_zero, Bd.d, List.getD_cons_succ, List.getD_cons_zero]
      intro K hK
      go_wp2
      exact hK _ [] _ (Ext.refl u) (fun _ _ => rfl) (Own.nil _ _)
    · cases ho
      simp only [putAll_toArray, put_toArray, List.map_cons, List.map_nil, setL, List.set_cons_succ, List.set_cons_zero, Bd.d, List.getD_cons_succ, List.getD_cons_zero]
      have d7 := (hd 7 (by decide +kernel)).1
      simp only [Bd.u, List.getD_cons_succ, List.getD_cons_zero, List.map_cons, List.map_nil] at d7
      try simp only [d7]
      clear d7
      intro K hK
      go_wp2
      exact hK _ [] _ (Ext.refl u) (fun _ _ => rfl) (Own.nil _ _)
    · cases ho
      simp only [putAll_toArray, put_toArray, List.map_cons, List.map_nil, setL, List.set_cons_succ, List.set_cons_zero, Bd.d, List.getD_cons_succ, List.getD_cons_zero]
      intro K hK
      go_wp2
      exact hK _ [] _ (Ext.refl u) (fun _ _ => rfl) (Own.nil _ _)
    · cases ho
      simp only [putAll_toArray, put_toArray, List.map_cons, List.map_nil, setL, List.set_cons_succ, List.set_cons_zero, Bd.d, List.getD_cons_succ, List.getD_cons_zero]
      have d9 := (hd 9 (by decide +kernel)).1
      simp only [Bd.u, List.getD_cons_succ, List.getD_cons_zero, List.map_cons, List.map_nil] at d9
      try simp only [d9]
      clear d9
      intro K hK
      go_wp2
      exact hK _ [] _ (Ext.refl u) (fun _ _ => rfl) (Own.nil _ _)
    · cases ho
      simp only [putAll_toArray, put_toArray, List.map_cons, List.map_nil, setL, List.set_cons_succ, List.set_cons_zero, Bd.d, List.getD_cons_succ, List.getD_cons_zero]
      have d7 := (hd 7 (by decide +kernel)).1
      have d8 := (hd 8 (by decide +kernel)).1
      have d9 := (hd 9 (by decide +kernel)).1
      have d10 := (hd 10 (by decide +kernel)).1
      simp only [Bd.u, List.getD_cons_succ, List.getD_cons_zero, List.map_cons, List.map_nil] at d7 d8 d9 d10
      try simp only [d7, d8, d9, d10]
      clear d7 d8 d9 d10
      intro K hK
      go_wp2
      exact hK _ [] _ (Ext.refl u) (fun _ _ => rfl) (Own.nil _ _)
    · cases ho
      simp only [putAll_toArray, put_toArray, List.map_cons, List.map_nil, setL, List.set_cons_succ, List.set_cons_zero, Bd.d, List.getD_cons_succ, List.getD_cons_zero]
      have d6 := (hd 6 (by decide +kernel)).1
      have d7 := (hd 7 (by decide +kernel)).1
      have d8 := (hd 8 (by decide +kernel)).1
      have d9 := (hd 9 (by decide +kernel)).1
      have d10 := (hd 10 (by decide +kernel)).1
      have d11 := (hd 11 (by decide +kernel)).1
      simp only [Bd.u, List.getD_cons_succ, List.getD_cons_zero, List.map_cons, List.map_nil] at d6 d7 d8 d9 d10 d11
      try simp only [d6, d7, d8, d9, d10, d11]
      clear d6 d7 d8 d9 d10 d11
      intro K hK
      go_wp2
      exact hK _ [] _ (Ext.refl u) (fun _ _ => rfl) (Own.nil _ _)
    · cases ho
      simp only [putAll_toArray, put_toArray, List.map_cons, List.map_nil, setL, List.set_cons_succ, List.set_cons_zero, Bd.d, List.getD_cons_succ, List.getD_cons_zero]
      have d6 := (hd 6 (by decide +kernel)).1
      have d7 := (hd 7 (by decide +kernel)).1
      have d8 := (hd 8 (by decide +kernel)).1
      have d9 := (hd 9 (by decide +kernel)).1
      have d10 := (hd 10 (by decide +kernel)).1
      have d11 := (hd 11 (by decide +kernel)).1
      have d12 := (hd 12 (by decide +kernel)).1
      simp only [Bd.u, List.getD_cons_succ, List.getD_cons_zero, List.map_cons, List.map_nil] at d6 d7 d8 d9 d10 d11 d12
      try simp only [d6, d7, d8, d9, d10, d11, d12]
      clear d6 d7 d8 d9 d10 d11 d12
      intro K hK
      go_wp2
      exact hK _ [] _ (Ext.refl u) (fun _ _ => rfl) (Own.nil _ _)
    · cases ho
      simp only [putAll_toArray, put_toArray, List.map_cons, List.map_nil, setL, List.set_cons_succ, List.set_cons_zero, Bd.d, List.getD_cons_succ, List.getD_cons_zero]
      have d6 := (hd 6 (by decide +kernel)).1
      have d7 := (hd 7 (by decide +kernel)).1
      have d8 := (hd 8 (by decide +kernel)).1
      have d9 := (hd 9 (by decide +kernel)).1
      have d10 := (hd 10 (by decide +kernel)).1
      have d11 := (hd 11 (by decide +kernel)).1
      have d12 := (hd 12 (by decide +kernel)).1
      have d13 := (hd 13 (by decide +kernel)).1
      simp only [Bd.u, List.getD_cons_succ, List.getD_cons_zero, List.map_cons, List.map_nil] at d6 d7 d8 d9 d10 d11 d12 d13
      try simp only [d6, d7, d8, d9, d10, d11, d12, d13]
      clear d6 d7 d8 d9 d10 d11 d12 d13
      intro K hK
      go_wp2
      exact hK _ [] _ (Ext.refl u) (fun _ _ => rfl) (Own.nil _ _)
    · cases ho
      simp only [putAll_toArray, put_toArray, List.map_cons, List.map_nil, setL, List.set_cons_succ, List.set_cons_zero, Bd.d, List.getD_cons_succ, List.getD_cons_zero]
      have d0 := (hd 0 (by decide +kernel)).1
      have d1 := (hd 1 (by decide +kernel)).1
      have d2 := (hd 2 (by decide +kernel)).1
      have d3 := (hd 3 (by decide +kernel)).1
      have d4 := (hd 4 (by decide +kernel)).1
      have d5 := (hd 5 (by decide +kernel)).1
      have d6 := (hd 6 (by decide +kernel)).1
      have d7 := (hd 7 (by decide +kernel)).1
      have d8 := (hd 8 (by decide +kernel)).1
      have d9 := (hd 9 (by decide +kernel)).1
      have d10 := (hd 10 (by decide +kernel)).1
      have d11 := (hd 11 (by decide +kernel)).1
      have d12 := (hd 12 (by decide +kernel)).1
      have d13 := (hd 13 (by decide +kernel)).1
      have d14 := (hd 14 (by decide +kernel)).1
      simp only [Bd.u, List.getD_cons_succ, List.getD_cons_zero, List.map_cons, List.map_nil] at d0 d1 d2 d3 d4 d5 d6 d7 d8 d9 d10 d11 d12 d13 d14
      try simp only [d0, d1, d2, d3, d4, d5, d6, d7, d8, d9, d10, d11, d12, d13, d14]
      clear d0 d1 d2 d3 d4 d5 d6 d7 d8 d9 d10 d11 d12 d13 d14
      intro K hK
      go_wp2
      exact hK _ [] _ (Ext.refl u) (fun _ _ => rfl) (Own.nil _ _)
  · intro oo ho U u2 F hE hφ hap
    cases ho
    simp only [putAll_toArray, put_toArray, List.map_cons, List.map_nil, setL, List.set_cons_succ, List.set_cons_zero, Bd.d, List.getD_cons_succ, List.getD_cons_zero]
    have d0 := (hφ 0 (by omega)).1
    have d1 := (hφ 1 (by omega)).1
    have d2 := (hφ 2 (by omega)).1
    have d3 := (hφ 3 (by omega)).1
    have d4 := (hφ 4 (by omega)).1
    have d5 := (hφ 5 (by omega)).1
    have d6 := (hφ 6 (by omega)).1
    have d7 := (hφ 7 (by omega)).1
    have d8 := (hφ 8 (by omega)).1
    have d9 := (hφ 9 (by omega)).1
    have d10 := (hφ 10 (by omega)).1
    have d11 := (hφ 11 (by omega)).1
    have d12 := (hφ 12 (by omega)).1
    have d13 := (hφ 13 (by omega)).1
    have d14 := (hφ 14 (by omega)).1
    have d15 := (hφ 15 (by omega)).1
    simp only [Bd.u, List.getD_cons_succ, List.getD_cons_zero, List.map_cons, List.map_nil] at d0 d1 d2 d3 d4 d5 d6 d7 d8 d9 d10 d11 d12 d13 d14 d15
    try simp only [d0, d1, d2, d3, d4, d5, d6, d7, d8, d9, d10, d11, d12, d13, d14, d15]
    have e0 := (cell_ext hE hGl).trans hcI
    have HEU := Lib.hid (HE9.out.tr hE)
    replace HO8 := Lib.hid (HO8.out.oo.ext hE)
    obtain ⟨hGu, hfu, _⟩ := HO8.out.cellI (by rw [hLn.out]; exact hpos)
    have hfuI := hfu I
    clear hφ hap hfu d0 d1 d2 d3 d4 d5 d6 d7 d8 d9 d10 d11 d12 d13 hE hm1
    go_upto_region 13 with (fail)
    refine abs_world (fun u => Ext W7 u ∧ Oo 3 W7.heap.size u (.slice (some ⟨G, 0, none⟩) len q6) (L.set I (bits .xor .i64 x 1))) ⟨HEU.out.set hLG _, HO8.out.setI (by rw [hLn.out]; exact hI) hxr⟩ ?_
    rintro u3 ⟨heu, hou⟩
    have HEU3 := Lib.hid heu
    have HOU := Lib.hid hou.rs
    clear heu hou HO8 HEU e0 hcI hfuI hfI
    replace hop := Lib.hid hop
    go_upto_region 14 with (go_at_call 29; refine (impl_OpenSetup _ (L.set I (bits .xor .i64 x 1)) key _ HOU.out).mono ?_; rintro e w10 ⟨v10, rfl, ho, he⟩; rw [hop.out] at ho ⊢; simp only at ho ⊢; obtain ⟨r0, t0, r1, t1, r2, t2, rfl, _⟩ := ho.rv.openSetup; have HE10 := Lib.hid (HEU3.out.tr he); clear ho he)
    refine abs_world (fun W10 => Ext W7 W10) (HE10.out.alloc _) ?_
    intro W10 e10
    have KA10 := KA4.ext (HE8.out.tr e10)
    have KB10 := KB.out.ext (HE85.out.tr e10)
    have a10 := KA10.cell (j := 0) rfl
    have a11 := KA10.cell (j := 1) rfl
    have a12 := KA10.cell (j := 2) rfl
    have b10 := KB10.cell (j := 0) rfl
    have b11 := KB10.cell (j := 1) rfl
    have b12 := KB10.cell (j := 2) rfl
    have hA10 := KA10.lt
    have hB10 := KB10.lt
    have HX10 := Lib.hid (HX5.out.ext (HE85.out.tr e10))
    have HP10 := Lib.hid (HP.out.ext (HE8.out.tr e10))
    have HS10 := Lib.hid (HS.out.tr (HE8.out.tr e10))
    obtain ⟨N, hN⟩ : ∃ N, M.numbers s = N := ⟨_, rfl⟩
    clear e10 HE10 HEU3 HOU KA10 KB10 KA4 KB HX5 HP HS HE8 HE85 HO HROW
    go_region_held3 (fun u => u.cell? ⟨w1.heap.size, 0, none⟩ = some (.slice a0 s.Parts.length c0) ∧ u.cell? ⟨w1.heap.size, 1, none⟩ = some (.slice a1 s.Channels.length c1) ∧ u.cell? ⟨w1.heap.size, 2, none⟩ = some (.slice a2 s.Slots.length c2) ∧ u.cell? ⟨w5.heap.size, 0, none⟩ = some (.slice x0 s.Parts.length y0) ∧ u.cell? ⟨w5.heap.size, 1, none⟩ = some (.slice x1 s.Channels.length y1) ∧ u.cell? ⟨w5.heap.size, 2, none⟩ = some (.slice x2 s.Slots.length y2))
      (first
        | go_keep
        | exact ⟨(cell_ext HE4.out hA10).trans a10, (cell_ext HE4.out hA10).trans a11, (cell_ext HE4.out hA10).trans a12, (cell_ext HE4.out hB10).trans b10, (cell_ext HE4.out hB10).trans b11, (cell_ext HE4.out hB10).trans b12⟩)
      (first
        | (go_at_call 11; refine (law_sameInts _ _ N N _ HO4.out HO5.out).mono ?_; rintro e w13 ⟨rfl, he⟩; rw [Eqb.t (rfl : N = N)]; replace HE4 := Lib.hid (HE4.out.tr he); clear he)
        | (go_at_call 10; refine (impl_SetupNumbers _ s _ (HP10.out.ext HE4.out)).mono ?_; rintro e w12 ⟨v12, rfl, ho, he⟩; rw [hN] at ho; have HO5 := Lib.hid ho.rs; replace HO4 := Lib.hid (HO4.out.ext he); replace HE4 := Lib.hid (HE4.out.tr he); clear ho he)
        | (go_at_call 10; refine (impl_SetupNumbers _ s _ (HX10.out.ext (Ext.refl W10).drew)).mono ?_; rintro e w11 ⟨v11, rfl, ho, he⟩; rw [hN] at ho; have HO4 := Lib.hid ho.rs; have HE4 := Lib.hid ((Ext.refl W10).drew.tr he); clear ho he))
    go_wp2
    go_ret
    exact ⟨rfl, HS10.out.tr HE4.out⟩
end Sk

