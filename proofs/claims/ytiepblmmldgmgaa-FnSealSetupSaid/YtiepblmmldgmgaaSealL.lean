/- Contracts of functions of the given program, and lemmas for them: each theorem states the condition under which it holds. -/
import Derived.Test.YtiepblmmldgmgaaChecked
import Derived.Deep.CutBlock
import Derived.Deep.CutRange
import Derived.Test.YtiepblmmldgmgaaReadS
import Derived.Test.YtiepblmmldgmgaaDraw
import Derived.Test.YtiepblmmldgmgaaNumsS
import Derived.Test.YtiepblmmldgmgaaMix
import Derived.Test.YtiepblmmldgmgaaDrawSt
import Derived.Test.YtiepblmmldgmgaaAcc
import Derived.Test.YtiepblmmldgmgaaDrawPV
import Derived.Test.YtiepblmmldgmgaaDel
import Derived.Test.YtiepblmmldgmgaaBuild
import Derived.Test.YtiepblmmldgmgaaRead
import Derived.Test.YtiepblmmldgmgaaTypes
import Derived.Test.YtiepblmmldgmgaaPol
import Derived.Test.YtiepblmmldgmgaaGaps
import Derived.Test.YtiepblmmldgmgaaReadI
import Derived.Test.YtiepblmmldgmgaaOb
namespace Sk
open Go Go.Proofs Go.RowKit
set_option maxHeartbeats 1600000
set_option maxRecDepth 100000
set_option linter.unusedVariables false
set_option linter.unusedSimpArgs false
theorem nat_xor_one (a : Nat) : a ^^^ 1 = 2 * (a / 2) + (a + 1) % 2 := by
  have h1 : (a ^^^ 1) / 2 = a / 2 := by rw [Nat.xor_div_two]; simp
  have h2 : (a ^^^ 1) % 2 = (a + 1) % 2 := by
    have h3 : (a ^^^ 1) % 2 = (a % 2) ^^^ (1 % 2) := Nat.xor_mod_two_pow (n := 1)
    rw [h3]
    rcases Nat.mod_two_eq_zero_or_one a with h4 | h4
    · rw [h4, show (a + 1) % 2 = 1 by omega]; rfl
    · rw [h4, show (a + 1) % 2 = 0 by omega]; rfl
  omega
theorem xor_one {x : Int} (hx : 0 ≤ x) (hx2 : x ≤ 100000000000) : bits .xor .i64 x 1 = 2 * (x / 2) + (x + 1) % 2 := by
  obtain ⟨a, rfl⟩ : ∃ a : Nat, x = a := ⟨x.toNat, by omega⟩
  have h1 : a ^^^ 1 < 2 ^ 37 := Nat.xor_lt_two_pow (by omega) (by omega)
  have h2 : bits .xor .i64 (a : Int) ((1 : Nat) : Int) = ((a ^^^ 1 : Nat) : Int) := by
    show IntKind.i64.wrap (((BitVec.ofInt 64 (a : Int)) ^^^ (BitVec.ofInt 64 ((1 : Nat) : Int)) : BitVec 64).toNat : Int) = _
    rw [BitVec.toNat_xor, BitVec.ofInt_natCast, BitVec.ofInt_natCast, BitVec.toNat_ofNat, BitVec.toNat_ofNat, Nat.mod_eq_of_lt (by omega), Nat.mod_eq_of_lt (by omega), IntKind.wrap_i64]
    omega
  refine h2.trans ?_
  rw [nat_xor_one]; omega
theorem turn_ne (x : Int) : 2 * (x / 2) + (x + 1) % 2 = x + 1 ∨ 2 * (x / 2) + (x + 1) % 2 = x - 1 := by omega
theorem turn_mod {x y : Int} (h : y = x + 1 ∨ y = x - 1) : x % 1048573 ≠ y % 1048573 := by
  rcases h with rfl | rfl
  · omega
  · omega
theorem xor_one_ne {x : Int} (hx : 0 ≤ x) (hx2 : x ≤ 2000000) : ∃ y, bits .xor .i64 x 1 = y ∧ y ≠ x ∧ x % 1048573 ≠ y % 1048573 := by
  have h := turn_ne x
  have h2 := xor_one hx (by omega)
  rw [h2]
  generalize 2 * (x / 2) + (x + 1) % 2 = y at *
  exact ⟨y, rfl, by omega, turn_mod h⟩
theorem M.mix1_inj {n m x : Int} (hn : 0 ≤ n ∧ n ≤ 1048572) (hm : 0 ≤ m ∧ m ≤ 1048572) (h : M.mix1 n x = M.mix1 m x) : n = m := by
  unfold M.mix1 at h
  omega
theorem M.mix1_ne {n x y : Int} (h : x % 1048573 ≠ y % 1048573) : M.mix1 n x ≠ M.mix1 n y := by
  unfold M.mix1
  omega
theorem M.mix_key : ∀ (xs : List Int) {k l : Int}, (0 ≤ k ∧ k ≤ 1048572) → (0 ≤ l ∧ l ≤ 1048572) → k ≠ l → M.mix k xs ≠ M.mix l xs
  | [], k, l, hk, hl, h => h
  | x :: xs, k, l, hk, hl, h => by
    show M.mix (M.mix1 k x) xs ≠ M.mix (M.mix1 l x) xs
    exact M.mix_key xs (M.mix1_rng _ _) (M.mix1_rng _ _) fun e => h (M.mix1_inj hk hl e)
theorem M.mix_set : ∀ (xs : List Int) (k : Int) (i : Nat) (x y : Int), xs[i]? = some x → x % 1048573 ≠ y % 1048573 → M.mix k (xs.set i y) ≠ M.mix k xs
  | [], k, i, x, y, hi, h => by simp at hi
  | z :: zs, k, 0, x, y, hi, h => by
    simp at hi; subst hi
    show M.mix (M.mix1 k y) zs ≠ M.mix (M.mix1 k z) zs
    exact M.mix_key zs (M.mix1_rng _ _) (M.mix1_rng _ _) (M.mix1_ne fun e => h e.symm)
  | z :: zs, k, i + 1, x, y, hi, h => by
    show M.mix (M.mix1 k z) (zs.set i y) ≠ M.mix (M.mix1 k z) zs
    exact M.mix_set zs _ i x y (by simpa using hi) h
theorem M.nums_bd {s : Setup} (h : M.setv s = true) : ∀ z ∈ M.nums s, 0 ≤ z ∧ z ≤ 10000 := by
  have h5 := M.setv_parts h
  have h8 := M.setv_chans h
  have h12 := M.setv_slots h
  intro z hz
  unfold M.nums at hz
  have hb : ∀ b : Bool, 0 ≤ M.bit b ∧ M.bit b ≤ 1 := fun b => by cases b <;> decide
  rcases List.mem_append.1 hz with hz | hz
  · rcases List.mem_append.1 hz with hz | hz
    · rcases List.mem_append.1 hz with hz | hz
      · rcases List.mem_append.1 hz with hz | hz
        · rcases List.mem_append.1 hz with hz | hz
          · rw [List.mem_singleton] at hz; omega
          · obtain ⟨p, hp, hz⟩ := List.mem_flatMap.1 hz
            obtain ⟨h1, h2⟩ := M.setv_wsv h hp
            have h2 := M.inn_iff.1 h2
            unfold M.wsv at h1
            simp only [Bool.and_eq_true, decide_eq_true_eq, List.all_eq_true] at h1
            unfold M.pn at hz
            rcases List.mem_append.1 hz with hz | hz
            · simp only [List.mem_cons, List.not_mem_nil, or_false] at hz
              omega
            · obtain ⟨x, hx, hz⟩ := List.mem_flatMap.1 hz
              have h3 := h1.2 x hx
              simp only [M.wv, Bool.and_eq_true, M.inn_iff] at h3
              have := hb x.Write
              simp only [M.wn, List.mem_cons, List.not_mem_nil, or_false] at hz
              omega
        · rw [List.mem_singleton] at hz; omega
      · obtain ⟨c, hc, hz⟩ := List.mem_flatMap.1 hz
        have h1 := M.setv_csv h
        simp only [M.csv, Bool.and_eq_true, List.all_eq_true] at h1
        have h3 := h1.2.2 c hc
        simp only [M.cv, Bool.and_eq_true, M.inn_iff, M.sized] at h3
        have h4 := Bo.iff.1 h3.1
        simp only [M.cn, List.mem_cons, List.not_mem_nil, or_false] at hz
        omega
    · rw [List.mem_singleton] at hz; omega
  · obtain ⟨x, hx, hz⟩ := List.mem_flatMap.1 hz
    have h1 := M.setv_who h hx
    have h2 : M.ssv s.Slots s.Parts.length = true := by
      simp only [M.setv, Bool.and_eq_true] at h; exact h.2.2
    simp only [M.ssv, Bool.and_eq_true, List.all_eq_true] at h2
    have h3 := h2.2.2 x hx
    simp only [M.slv, Bool.and_eq_true, M.inn_iff] at h3
    simp only [M.sn, List.mem_cons, List.not_mem_nil, or_false] at hz
    omega
/-- What the law says of a sealed list. -/
theorem M.seal_facts {s : Setup} {key : Int} {L : List Int} (h : M.sealed s key = L) (hL : L ≠ []) :
    M.openS L key = (s, true) ∧ M.openS L ((key + 1) % 1048573) = (default, false) ∧ (∀ (i : Nat) (x : Int), L[i]? = some x → (0 ≤ x ∧ x ≤ 2000000) ∧ M.openS (L.set i (bits .xor .i64 x 1)) key = (default, false)) ∧ (0 ≤ key ∧ key ≤ 1048572) ∧ L.length ≤ 1001 := by
  unfold M.sealed at h
  by_cases hc : (M.setv s && M.inn key 0 1048572) = true
  rotate_left
  · rw [if_neg hc] at h; exact absurd h.symm hL
  rw [if_pos hc] at h
  obtain ⟨hs, hk⟩ := Bool.and_eq_true_iff.1 hc
  have hk2 := M.inn_iff.1 hk
  have hm := M.mix_rng hk2 (M.nums s)
  have hbd := M.nums_bd hs
  have hnl := M.nums_len hs
  have hrd := M.readS_of hs
  subst h
  have hk3 : M.inn ((key + 1) % 1048573) 0 1048572 = true := M.inn_iff.2 (by omega)
  refine ⟨?_, ?_, fun i x hi => ?_, hk2, by simp; omega⟩
  · rw [M.openS_eq hk, if_pos (by simp), hrd]
  · rw [M.openS_eq hk3, if_neg]
    intro e
    exact M.mix_key (M.nums s) (k := (key + 1) % 1048573) (l := key) (by omega) hk2 (by omega) (beq_iff_eq.1 e)
  · by_cases hin : i < (M.nums s).length
    · rw [List.getElem?_append_left hin] at hi
      have hx := hbd x (List.mem_of_getElem? hi)
      refine ⟨by omega, ?_⟩
      obtain ⟨y, hy, hyx, hyp⟩ := xor_one_ne (x := x) hx.1 (by omega)
      rw [hy, List.set_append_left _ _ hin, M.openS_eq hk]
      exact if_neg fun e => M.mix_set _ key i x y hi hyp (beq_iff_eq.1 e)
    · rw [List.getElem?_append_right (by omega)] at hi
      have hi0 : i - (M.nums s).length = 0 := by
        cases hj : i - (M.nums s).length with
        | zero => rfl
        | succ j => rw [hj] at hi; simp at hi
      rw [hi0] at hi
      have hi : M.mix key (M.nums s) = x := Option.some.inj hi
      refine ⟨by omega, ?_⟩
      obtain ⟨y, hy, hyx, hyp⟩ := xor_one_ne (x := x) (by omega) (by omega)
      rw [hy, List.set_append_right _ _ (by omega), hi0]
      refine (M.openS_eq hk (M.nums s) y).trans (if_neg fun e => ?_)
      exact hyx ((beq_iff_eq.1 e).symm.trans hi)
end Sk

namespace Sk
open Go Go.Proofs Go.RowKit
set_option maxHeartbeats 1600000
set_option maxRecDepth 100000
set_option linter.unusedVariables false
set_option linter.unusedSimpArgs false
theorem spec_SealSetup (v : Value) (s : Setup) (key : Int) (w : World) (h : Rv w v s) :
    Calls Try.prog 28 #[v, .int .i64 key] w fun e w' => ∃ v', e = .returned v' ∧ Oo 3 w.heap.size w' v' (M.sealed s key) ∧ Ext w w' := by
  have H := Lib.hid h
  obtain ⟨a0, c0, a1, c1, a2, c2, rfl, h0, hl0, h1, hl1, h2, hl2⟩ := h.openSetup
  clear h h0 h1 h2
  have e0 := Lib.hid ((Ext.refl w).alloc (.cells #[.slice a0 s.Parts.length c0, .slice a1 s.Channels.length c1, .slice a2 s.Slots.length c2] 27))
  cases g : M.setv s
  · have hm : Hid (M.sealed s key = []) := Lib.hid (by unfold M.sealed; rw [g]; rfl)
    go_enter Try.func28, Try.ntmps28
    go_wp2_with (go_at_call 36; refine (spec_SetupValid _ s _ (H.out.ext e0.out)).mono ?_; rintro e w1 ⟨he, he1⟩; rw [g] at he; subst he; have E1 := Lib.hid (e0.out.tr he1); clear he1)
    go_ret
    exact ⟨_, rfl, by rw [hm.out]; exact (Oo.lit0 (α := Int) 3 w1).mono E1.out.sz, E1.out.alloc _⟩
  · cases k : M.inn key 0 1048572
    · have hm : Hid (M.sealed s key = []) := Lib.hid (by unfold M.sealed; rw [g, k]; rfl)
      go_enter Try.func28, Try.ntmps28
      go_wp2_with (first
        | (go_at_call 36; refine (spec_SetupValid _ s _ (H.out.ext e0.out)).mono ?_; rintro e w1 ⟨he, he1⟩; rw [g] at he; subst he; have E1 := Lib.hid (e0.out.tr he1); clear he1)
        | (go_at_call 45; refine (spec_In _ _ _ _).mono ?_; rintro e w2 ⟨he, rfl⟩; rw [k] at he; subst he))
      go_ret
      exact ⟨_, rfl, by rw [hm.out]; exact (Oo.lit0 (α := Int) 3 w1).mono E1.out.sz, E1.out.alloc _⟩
    · have hm : Hid (M.sealed s key = M.nums s ++ [M.mix key (M.nums s)]) := Lib.hid (by unfold M.sealed; rw [g, k]; rfl)
      have hN : Hid (M.numbers s = M.nums s) := Lib.hid (by unfold M.numbers; rw [if_pos g])
      have hnl := M.nums_len g
      have hk := M.inn_iff.1 k
      obtain ⟨hk0, hk1⟩ := hk
      have hmr := M.mix_rng ⟨hk0, hk1⟩ (M.nums s)
      go_enter Try.func28, Try.ntmps28
      go_upto_region 4 with (first
        | (go_at_call 36; refine (spec_SetupValid _ s _ (H.out.ext e0.out)).mono ?_; rintro e w1 ⟨he, he1⟩; rw [g] at he; subst he; have E1 := Lib.hid (e0.out.tr he1); obtain ⟨hz, x0, x1, x2⟩ := box3 he1; clear he1)
        | (go_at_call 45; refine (spec_In _ _ _ _).mono ?_; rintro e w2 ⟨he, rfl⟩; rw [k] at he; subst he)
        | (go_at_call 12; refine (spec_SetupNumbers _ s _ (H.out.ext E1.out)).mono ?_; rintro e w3 ⟨v3, rfl, ho, he3⟩; rw [hN.out] at ho; have HO := Lib.hid ho; have E3 := Lib.hid (E1.out.tr he3); obtain ⟨a3, n3, c3, rfl⟩ := ho.sh; clear ho he3))
      have hs3 := E3.out.sz
      have hs1 := E1.out.sz
      have hnl2 := M.nums_len g
      go_wp2_with (first
        | (go_at_call 61; refine (spec_MixNumbers _ (M.nums s) key _ HO.out.rs hk0 hk1).mono ?_; rintro e w4 ⟨rfl, rfl⟩)
        | (at_builtin; refine wpl_appO (u := w3) (α := Int) rfl _ _ 29 rfl 3 Try.underlying29 elInt (v := .slice a3 n3 c3) (ys := [M.mix key (M.nums s)]) rfl (HO.out.mono hs1) ((Ext.refl _).alloc _) hs3 rfl rfl (CI.row ⟨by simp, rng_of (by omega) (by omega), trivial⟩) (by simp) (Own.nil _ _) (by omega) ?_; intro v5 w5 hO5 hg5; have HO5 := Lib.hid hO5; have E5 := Lib.hid (Ext.grown (E3.out.alloc _) hg5 (HO.out.mono hs1).own); obtain ⟨p5, n5, q5, rfl⟩ := hO5.sh; clear hO5 hg5))
      go_ret
      exact ⟨_, rfl, by rw [hm.out]; exact HO5.out, E5.out⟩
end Sk

namespace Sk
open Go Go.Proofs Go.RowKit
set_option maxHeartbeats 1600000
set_option maxRecDepth 100000
set_option linter.unusedVariables false
set_option linter.unusedSimpArgs false
theorem cell_set3 {w : World} {A B o : Nat} {u0 u1 u2 x : Value} (h : w.cell? ⟨B, o, none⟩ = some x) (hne : B ≠ A) : (((w.setCell ⟨A, 0, none⟩ u0).setCell ⟨A, 1, none⟩ u1).setCell ⟨A, 2, none⟩ u2).cell? ⟨B, o, none⟩ = some x :=
  (World.cell?_of_block (heap_set_ne hne)).trans ((World.cell?_of_block (heap_set_ne hne)).trans ((World.cell?_of_block (heap_set_ne hne)).trans h))
theorem spec_DrawSealSetup (v : Value) (xs : List By) (w : World) (h : Rs w v xs) :
    Calls Try.prog 26 #[v] w fun e w' => ∃ (v' : Value) (s : Setup) (z : Int), e = .returned (.tuple #[v', .int .i64 z]) ∧ Rvb (α := Setup) w.heap.size w' v' s ∧ M.drawn s ∧ -1 ≤ z ∧ z ≤ 1048573 ∧ Ext w w' := by
  have H := Lib.hid h
  clear h
  go_enter Try.func26, Try.ntmps26
  go_upto_region 1 with (fail)
  refine abs_world (fun W0 => Ext w W0 ∧ Bk W0 w.heap.size [.slice none 0 0, .slice none 0 0, .slice none 0 0] 27) ⟨(Ext.refl _).alloc _, Bk.new _ _ _⟩ ?_
  rintro W0 ⟨e0, kA⟩
  have HE0 := Lib.hid e0
  have KA := Lib.hid kA
  have hA := kA.lt
  clear e0 kA
  go_upto_region 3 with (first
    | (go_at_call 32; refine (spec_l20Setup W0 _ b 100 _ HR.out (by omega) (by omega)).mono ?_; rintro e w2 ⟨v2, s, rfl, hv, hds, hm, hr⟩; obtain ⟨a0, c0, a1, c1, a2, c2, rfl, hl0, hl1, hl2⟩ := hv.openS; have KA2 := Lib.hid (hm.bk (KA.out.ext HE.out) (by simp; omega)); have HV := Lib.hid hv; have HDS := Lib.hid hds; have HR2 := Lib.hid hr; have HM2 := Lib.hid (hm.ext (HE0.out.tr HE.out) (by simp; omega)); have hs2 := hm.size; clear hm hr hv hds)
    | (go_at_call 33; refine (spec_l20Open _ _ _ (H.out.ext HE0.out)).mono ?_; rintro e w1 ⟨b, rfl, hb, he, hr⟩; have HE := Lib.hid he; have hs1 := he.sz; have hb1 := hr.lt; have HR : Hid (Rd W0 w1 b (100 + 500)) := Lib.hid (hr.le (by omega)); clear he hr))
  refine abs_world (fun W2 => Ext w2 W2 ∧ Bk W2 w2.heap.size [.slice a0 s.Parts.length c0, .slice a1 s.Channels.length c1, .slice a2 s.Slots.length c2] 27) ⟨(Ext.refl _).alloc _, Bk.new _ _ _⟩ ?_
  rintro W2 ⟨e2, kB⟩
  have hW2 := e2.sz
  have HE2 := Lib.hid (HM2.out.tr e2)
  replace KA2 := KA2.out.ext e2
  replace HV := Lib.hid (HV.out.ext e2)
  replace HR2 : Hid (Rd W0 W2 b (40 + 3)) := Lib.hid ((HR2.out.ext e2).le (by omega))
  have KB := Lib.hid kB
  have b0 := kB.cell (j := 0) rfl
  have b1 := kB.cell (j := 1) rfl
  have b2 := kB.cell (j := 2) rfl
  have d0 := KA2.cell (j := 0) rfl
  have d1 := KA2.cell (j := 1) rfl
  have d2 := KA2.cell (j := 2) rfl
  have df := KA2.fz
  have dl := KA2.lt
  have hBl := kB.lt
  replace KA2 := Lib.hid KA2
  clear e2 kB HM2 HR KA
  go_region_held3 (fun u => u.cell? ⟨w2.heap.size, 0, none⟩ = some (.slice a0 s.Parts.length c0) ∧ u.cell? ⟨w2.heap.size, 1, none⟩ = some (.slice a1 s.Channels.length c1) ∧ u.cell? ⟨w2.heap.size, 2, none⟩ = some (.slice a2 s.Slots.length c2))
    (first
      | go_keep
      | exact ⟨HM.out.cell0 b0 (by simp <;> omega) hBl, HM.out.cell0 b1 (by simp <;> omega) hBl, HM.out.cell0 b2 (by simp <;> omega) hBl⟩
      | exact ⟨cell_set3 (HM.out.cell0 b0 (by simp <;> omega) hBl) (show w2.heap.size ≠ w.heap.size by omega), cell_set3 (HM.out.cell0 b1 (by simp <;> omega) hBl) (show w2.heap.size ≠ w.heap.size by omega), cell_set3 (HM.out.cell0 b2 (by simp <;> omega) hBl) (show w2.heap.size ≠ w.heap.size by omega)⟩)
    (first | (go_at_call 57; refine (spec_l20Key W0 _ b 40 (HR2.out.ext (Ext.refl W2).drew)).mono ?_; rintro e w3 ⟨z, rfl, ⟨hz1, hz2⟩, hm, hr⟩; have HM : Hid (Mw [b] W2 w3) := Lib.hid ((Mw.ofExt (Ext.refl W2).drew).tr hm); have d0 := HM.out.cell0 d0 (by simp <;> omega) dl; have d1 := HM.out.cell0 d1 (by simp <;> omega) dl; have d2 := HM.out.cell0 d2 (by simp <;> omega) dl; have df := (HM.out.bk KA2.out (by simp <;> omega)).fz; have dl3 := (HM.out.bk KA2.out (by simp <;> omega)).lt; clear hm hr))
  go_wp2
  refine bodyPost_ret (v := .tuple #[.agg #[.slice a0 s.Parts.length c0, .slice a1 s.Channels.length c1, .slice a2 s.Slots.length c2], .int .i64 z]) (by simp [results, Try.results26, go_sem, d0, d1, d2]) rfl ⟨_, s, z, rfl, ?_, HDS.out, hz1, hz2, ?_⟩
  · have HV4 := HV.out.mw HM.out (by simpa using hb1)
    exact ((((HV4.set (p := ⟨w.heap.size, 0, none⟩) (by show w.heap.size < w1.heap.size; omega) _).set (p := ⟨w.heap.size, 1, none⟩) (by show w.heap.size < w1.heap.size; omega) _).set (p := ⟨w.heap.size, 2, none⟩) (by show w.heap.size < w1.heap.size; omega) _).mono (by omega))
  · have HE4 := HM.out.ext HE2.out (by simp <;> omega)
    exact (((HE4.set (Nat.le_refl _) _).set (Nat.le_refl _) _).set (Nat.le_refl _) _)
end Sk

namespace Sk
open Go Go.Proofs Go.RowKit
set_option maxHeartbeats 1600000
set_option maxRecDepth 100000
set_option linter.unusedVariables false
set_option linter.unusedSimpArgs false
theorem rs_one {w : World} {T : TypeId} {z : Int} (h : rng z) : Rs (w.alloc (.cells #[.int .i64 z] T)) (.slice (some ⟨w.heap.size, 0, none⟩) 1 1) [z] :=
  ⟨[w.heap.size], _, 1, rfl, by simp, by unfold maxLen; omega, .inr ⟨by simp, w.heap.size, 0, [], rfl, rfl, Row.lit1 (cs := [.int .i64 z]) ⟨rfl, h, rfl⟩⟩⟩
theorem Rs.row {α : Type} [GT α] [Fl α] {w : World} {a : Option Addr} {n c : Nat} {xs : List α} (h : Rs w (.slice a n c) xs) (hx : 0 < xs.length) : ∃ g o, a = some ⟨g, o, none⟩ ∧ n = xs.length ∧ Row w g o xs [] := by
  obtain ⟨F, a', c', he, hl, hc, hr⟩ := h
  cases he
  rcases hr with ⟨rfl, _⟩ | ⟨_, b, o, F', rfl, rfl, hr⟩
  · cases hx
  · have := hr.fl
    subst this
    exact ⟨b, o, rfl, rfl, hr⟩
theorem Os.own1 {α : Type} [GT α] [Fl α] {e : TypeId} {L : Nat} {w : World} {v : Value} {xs : List α} (h : Oo e L w v xs) : ∃ F, GT.enc w [v] xs F ∧ Own L w F := by
  obtain ⟨F, h1, h2⟩ := h.os
  exact ⟨F, ⟨v, rfl, h1⟩, h2⟩
end Sk

namespace Sk
open Go Go.Proofs Go.RowKit
set_option maxHeartbeats 1600000
set_option maxRecDepth 100000
set_option linter.unusedVariables false
set_option linter.unusedSimpArgs false
/-- Numbers are read to where they end. -/
theorem M.iReadR {s : Setup} (h : M.setv s = true) (rest : List Int) : M.iAll (M.nums s ++ rest, false) = s ∧ M.iEnd (M.nums s ++ rest, false) = (rest, false) := by
  have h5 := M.setv_parts h
  have h8 := M.setv_chans h
  have h12 := M.setv_slots h
  have i5 : M.inn (s.Parts.length : Int) 0 5 = true := M.inn_len (by omega)
  have i8 : M.inn (s.Channels.length : Int) 0 8 = true := M.inn_len (by omega)
  have i12 : M.inn (s.Slots.length : Int) 0 12 = true := M.inn_len (by omega)
  have hn : M.nums s ++ rest = (s.Parts.length : Int) :: (s.Parts.flatMap M.pn ++ ((s.Channels.length : Int) :: (s.Channels.flatMap M.cn ++ ((s.Slots.length : Int) :: (s.Slots.flatMap M.sn ++ rest))))) := by simp [M.nums]
  have hP := M.iter_all (f := M.iP1) (g := M.pn) (ok := fun x => x.Windows.length ≤ 12) (fun x r hx => M.iP1_ok x r hx) ((s.Channels.length : Int) :: (s.Channels.flatMap M.cn ++ ((s.Slots.length : Int) :: (s.Slots.flatMap M.sn ++ rest)))) s.Parts
    (fun x hx => by obtain ⟨k, hk⟩ := List.getElem?_of_mem hx; exact M.setv_win h hk)
  have hC := M.iter_all (f := M.iC1) (g := M.cn) (ok := fun _ => True) (fun x r _ => M.iC1_ok x r) ((s.Slots.length : Int) :: (s.Slots.flatMap M.sn ++ rest)) s.Channels (fun _ _ => trivial)
  have hS := M.iter_all (f := M.iS1) (g := M.sn) (ok := fun x => -1 ≤ x.Who) (fun x r hx => M.iS1_ok x r hx) rest s.Slots (fun x hx => (M.setv_who h hx).1)
  rw [hn]
  simp only [M.iAll, M.iEnd, M.iPs, M.iCs, M.iSs, M.mx_cons _ _ i5, M.ms_cons _ _ i5, Int.toNat_natCast, hP, M.mx_cons _ _ i8, M.ms_cons _ _ i8, hC, M.mx_cons _ _ i12, M.ms_cons _ _ i12, hS]
  exact ⟨trivial, trivial⟩
theorem M.nums_more {s t : Setup} (hs : M.setv s = true) (ht : M.setv t = true) {ys : List Int} (h : M.nums t = M.nums s ++ ys) : ys = [] := by
  have h1 := (M.iReadR hs ys).2
  have h2 := (M.iReadR ht []).2
  rw [List.append_nil, h, h1] at h2
  exact congrArg Prod.fst h2
theorem M.readS_more {s : Setup} (h : M.setv s = true) {ys : List Int} (hy : ys ≠ []) : M.readS (M.nums s ++ ys) = (default, false) :=
  M.readS_none fun t ht e => hy (M.nums_more h ht e)
theorem M.nums_pos (s : Setup) : 3 ≤ (M.nums s).length := by
  simp only [M.nums, List.length_append, List.length_cons, List.length_nil]; omega
theorem M.numbers_cases (s : Setup) : (M.setv s = true ∧ M.numbers s = M.nums s) ∨ (M.setv s = false ∧ M.numbers s = []) := by
  unfold M.numbers
  cases h : M.setv s
  · exact .inr ⟨rfl, rfl⟩
  · exact .inl ⟨rfl, rfl⟩
theorem Os.copy {α : Type} [GT α] [Fl α] {w : World} {a : Option Addr} {n c : Nat} {xs : List α} (h : Rs w (.slice a n c) xs) (hx : 0 < xs.length) : ∃ g o, a = some ⟨g, o, none⟩ ∧ n = xs.length ∧ g < w.heap.size ∧ Hid (Row w g o xs []) := by
  obtain ⟨g, o, h1, h2, h3⟩ := h.row hx
  exact ⟨g, o, h1, h2, h3.lt (List.length_pos_iff.1 hx), h3⟩
end Sk

namespace Sk
open Go Go.Proofs Go.RowKit
set_option maxHeartbeats 800000
set_option maxRecDepth 100000
set_option linter.unusedVariables false
set_option linter.unusedSimpArgs false
theorem Mx.own {F G : List Nat} {L : Nat} {a b : World} (h : Mx F a b) (ho : Own L a G) : Own L b G := ⟨ho.1, fun x hx => ⟨(ho.2 x hx).1, h.2.2.2 x (ho.2 x hx).2⟩⟩
theorem mkT_ct_Setup (x : Setup) (k : Int) : (x.mkT k).ctT = x.ctT := GT.mkE_ct _ _
theorem mkT_idem_Setup (x : Setup) (k : Int) : (x.mkT k).mkT k = x.mkT k := GT.mkE_idem _ _
theorem mkT_ct_Board (x : Board) (k : Int) : (x.mkT k).ctT = x.ctT := GT.mkE_ct _ _
theorem mkT_idem_Board (x : Board) (k : Int) : (x.mkT k).mkT k = x.mkT k := GT.mkE_idem _ _
theorem mkT_ct_Machine (x : Machine) (k : Int) : (x.mkT k).ctT = x.ctT := by simp only [Machine.mkT, Machine.ctT, GT.mkE_ct]
theorem mkT_idem_Machine (x : Machine) (k : Int) : (x.mkT k).mkT k = x.mkT k := by simp only [Machine.mkT, GT.mkE_ct, GT.mkE_idem]
theorem mkT_ct_Watch (x : Watch) (k : Int) : (x.mkT k).ctT = x.ctT := by simp only [Watch.mkT, Watch.ctT, GT.mkE_ct, mkT_ct_Machine]
theorem mkT_idem_Watch (x : Watch) (k : Int) : (x.mkT k).mkT k = x.mkT k := by simp only [Watch.mkT, mkT_ct_Machine, mkT_idem_Machine, GT.mkE_idem]
end Sk

namespace Sk
open Go Go.Proofs Go.RowKit
set_option maxHeartbeats 8000000
set_option maxRecDepth 100000
set_option linter.unusedVariables false
set_option linter.unusedSimpArgs false
/-- How far the influences of a policy were seen to go on. -/
def OnTo (q : List (List Bool)) (n ka kb kc : Nat) (o : Bool) : Prop :=
  o = true → ∀ a b c, a < n → b < n → c < n → (a < ka ∨ (a = ka ∧ (b < kb ∨ (b = kb ∧ c < kc)))) → M.at2 q a b = true → M.at2 q b c = true → M.at2 q a c = true
theorem OnTo.zero (q : List (List Bool)) (n : Nat) (o : Bool) : OnTo q n 0 0 0 o := fun _ a b c _ _ _ h => by omega
theorem OnTo.off (q : List (List Bool)) (n ka kb kc : Nat) : OnTo q n ka kb kc false := fun h => by cases h
theorem OnTo.nextA {q : List (List Bool)} {n ka : Nat} {o : Bool} (h : OnTo q n ka n 0 o) : OnTo q n (ka + 1) 0 0 o :=
  fun ho a b c ha hb hc hk => h ho a b c ha hb hc (by omega)
theorem OnTo.nextB {q : List (List Bool)} {n ka kb : Nat} {o : Bool} (h : OnTo q n ka kb n o) : OnTo q n ka (kb + 1) 0 o :=
  fun ho a b c ha hb hc hk => h ho a b c ha hb hc (by omega)
theorem OnTo.nextC {q : List (List Bool)} {n ka kb kc : Nat} {o : Bool} (h : OnTo q n ka kb kc o) (hk : M.at2 q ka kb = true → M.at2 q kb kc = true → M.at2 q ka kc = true) : OnTo q n ka kb (kc + 1) o :=
  fun ho a b c ha hb hc hk2 h1 h2 => by
    by_cases he : a = ka ∧ b = kb ∧ c = kc
    · obtain ⟨rfl, rfl, rfl⟩ := he; exact hk h1 h2
    · exact h ho a b c ha hb hc (by omega) h1 h2
theorem OnTo.all {q : List (List Bool)} {n : Nat} {o : Bool} (h : OnTo q n n 0 0 o) (ho : o = true) : ∀ a b c, a < n → b < n → c < n → M.at2 q a b = true → M.at2 q b c = true → M.at2 q a c = true :=
  fun a b c ha hb hc => h ho a b c ha hb hc (by omega)
end Sk

