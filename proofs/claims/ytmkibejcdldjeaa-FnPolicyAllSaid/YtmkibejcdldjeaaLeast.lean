/- Contracts of functions of the given program, and lemmas for them: each theorem states the condition under which it holds. -/
import Derived.Test.YtmkibejcdldjeaaChecked
import Derived.Test.YtmkibejcdldjeaaFlows
import Derived.Test.YtmkibejcdldjeaaFld
namespace Sk
open Go Go.Proofs Go.RowKit
set_option maxHeartbeats 400000
set_option maxRecDepth 100000
set_option linter.unusedVariables false
set_option linter.unusedSimpArgs false
theorem make_BoolS (xs : Nat) (hl : xs ≤ 1048576) (u : World) : (Instr.makeSlice 28 (.int .i64 xs) (.int .i64 xs)).run Try.prog u =
      .ok (.slice (some ⟨u.heap.size, 0, none⟩) xs xs) (u.alloc (.cells (madeCells #[.slice none 0 0] (xs * 1)) 36)) := by
  obtain ⟨i0, hi, hz0, hz1, hz2⟩ := info_parts info_BoolS
  have h := run_make (P := Try.prog) u 28 36 i0 (.slice none 0 0) Try.underlying28 hi hz0 .i64 .i64 xs xs (by omega) (Int.le_refl _) (by rw [hz2]; omega) (by omega)
  simpa [hz1, Value.cells] using h
/-- A row of a matrix of one's own is read and turned. -/
theorem Osb.bool2 {L M : Nat} {w : World} {g s n c : Nat} {xss : List (List Bool)} (h : Osb L M w (.slice (some ⟨g, s, none⟩) n c) xss) (i j : Nat) (xs : List Bool) (hx : xss[i]? = some xs) (hj : j < xs.length) :
    ∃ g2 s2 c2, w.cell? ⟨g, s + i, none⟩ = some (.slice (some ⟨g2, s2, none⟩) xs.length c2) ∧ xs.length ≤ c2 ∧ xs.length ≤ 9223372036854775807 ∧ w.cell? ⟨g2, s2 + j, none⟩ = some (.bool (xs.getD j false)) ∧ w.frozen? ⟨g2, s2 + j, none⟩ = false ∧ g < w.heap.size ∧ g2 < w.heap.size ∧ L ≤ g2 ∧ g2 < M ∧
      Hid (∀ w' y, Ext w w' → Osb L M (w'.setCell ⟨g2, s2 + j, none⟩ (.bool y)) (.slice (some ⟨g, s, none⟩) n c) (xss.set i (xs.set j y))) := by
  obtain ⟨FF, hs, hoo, hM⟩ := h
  obtain ⟨g', s', Fy, x, he, hx', ho, hsub, hback⟩ := hs.idx hoo i (List.getElem?_eq_some_iff.1 hx).1
  cases he
  have : x = xs := by have := hx'.out; rw [hx] at this; cases this; rfl
  subst this
  simp only [GT.sz, Nat.mul_one] at ho hback
  obtain ⟨a2, c2, hc, hc1, hc2, _⟩ := ho.cell
  obtain ⟨g2, s2, Fz, y0, rfl, hy0, hl⟩ := ho.idx hc j hj
  simp only [GT.sz, Nat.mul_one] at hl
  obtain ⟨cs, hen, hat⟩ := hl.enc
  obtain ⟨rfl, rfl⟩ := id hen
  have h0 := hat 0 _ rfl
  rw [Nat.add_zero] at h0
  have hbk := ho.bk
  obtain ⟨csA, _, _, hown⟩ := id ho
  have hb2 := (hl.om hown).bk
  refine ⟨g2, s2, c2, hc, hc1, hc2, ?_, hb2.2.2.2 _, hbk.1, hb2.1, hb2.2.1, hM _ (hsub _ (hl.sub _ (List.mem_cons_self ..))), Lib.hid fun w' y he => ?_⟩
  · rw [h0, List.getD_eq_getElem?_getD, hy0.out]; rfl
  · have hch : Chg g2 (s2 + j) 1 [] w (w'.setCell ⟨g2, s2 + j, none⟩ (.bool y)) := (Chg.ofExt he hb2.1).set ⟨Nat.le_refl _, by omega⟩ _
    have hom : Om L (w'.setCell ⟨g2, s2 + j, none⟩ (.bool y)) g2 (s2 + j) y [] := by
      refine ⟨[.bool y], ⟨rfl, rfl⟩, fun k u hk => ?_, by simp, fun k hk => ?_⟩
      · cases k with
        | zero =>
          simp at hk; subst hk
          exact World.cell?_setCell_same _ _ _ (((bcell he).1 _ _ hb2.1).trans h0)
        | succ k => simp at hk
      · rcases List.mem_cons.1 hk with rfl | hk
        · exact ⟨hb2.2.1, hch.2.2.2.2 _ (hown.2 _ (hl.sub _ (List.mem_cons_self ..))).2⟩
        · cases hk
    obtain ⟨F', h1, h2, h3⟩ := hl.back L _ y [] hown hch hom (fun k hk => by cases hk)
    obtain ⟨F'', k1, k2, k3⟩ := hback _ _ F' h3 h1 (fun k hk => (h2 k hk).elim .inl (fun h => by cases h))
    exact ⟨F'', k1, k2, fun k hk => (k3 k hk).elim (hM k) (fun h => (h2 k h).elim (fun h => hM k (hsub k (List.mem_cons_of_mem _ h))) (fun h => by cases h))⟩
/-- The influence of all on all, column by column: b columns, and a elements of one more. -/
def M.cols (cs : List Channel) (n b a : Nat) : List (List Bool) :=
  (List.range n).map fun i => (List.range n).map fun c => (decide (c < b) || (decide (c = b) && decide (i < a))) && (M.flows cs n c).getD i false
def M.least (cs : List Channel) (n : Nat) : List (List Bool) := (List.range n).map fun i => (List.range n).map fun c => (M.flows cs n c).getD i false
theorem M.cols_len (cs : List Channel) (n b a : Nat) : (M.cols cs n b a).length = n := by simp [M.cols]
theorem M.cols_zero (cs : List Channel) (n : Nat) : M.cols cs n 0 0 = List.replicate n (List.replicate n false) := by
  unfold M.cols
  refine List.ext_getElem (by simp) fun i h1 h2 => ?_
  simp only [List.getElem_map, List.getElem_replicate]
  refine List.ext_getElem (by simp) fun j h3 h4 => ?_
  simp
theorem M.cols_all (cs : List Channel) (n : Nat) : M.cols cs n n 0 = M.least cs n := by
  unfold M.cols M.least
  refine List.ext_getElem (by simp) fun i h1 h2 => ?_
  simp only [List.getElem_map]
  refine List.ext_getElem (by simp) fun j h3 h4 => ?_
  have : j < n := by simpa using h3
  simp [this]
theorem M.cols_next (cs : List Channel) (n b : Nat) : M.cols cs n b n = M.cols cs n (b + 1) 0 := by
  unfold M.cols
  refine List.ext_getElem (by simp) fun i h1 h2 => ?_
  have hi : i < n := by simpa using h1
  simp only [List.getElem_map]
  refine List.ext_getElem (by simp) fun j h3 h4 => ?_
  simp only [List.getElem_map, List.getElem_range, hi, decide_true, Bool.and_true, Nat.not_lt_zero, decide_false, Bool.and_false, Bool.or_false]
  congr 1
  rw [← Bool.decide_or]
  exact decide_eq_decide.2 (by omega)
/-- Row i while column b is filled. -/
def M.colr (cs : List Channel) (n b i : Nat) (d : Bool) : List Bool := (List.range n).map fun c => (decide (c < b) || (decide (c = b) && d)) && (M.flows cs n c).getD i false
theorem M.colr_len (cs : List Channel) (n b i : Nat) (d : Bool) : (M.colr cs n b i d).length = n := by simp [M.colr]
theorem M.cols_at (cs : List Channel) {n b i : Nat} (hi : i < n) : (M.cols cs n b i)[i]? = some (M.colr cs n b i false) := by
  unfold M.cols M.colr; simp [hi]
theorem M.cols_set (cs : List Channel) {n b i : Nat} (hb : b < n) (hi : i < n) : (M.cols cs n b i).set i ((M.colr cs n b i false).set b ((M.flows cs n b).getD i false)) = M.cols cs n b (i + 1) := by
  refine List.ext_getElem (by simp [M.cols]) fun k h1 h2 => ?_
  have hk : k < n := by simpa [M.cols] using h1
  rw [List.getElem_set]
  split
  · subst k
    simp only [M.cols, List.getElem_map, List.getElem_range, M.colr]
    refine List.ext_getElem (by simp) fun j h3 h4 => ?_
    rw [List.getElem_set]
    simp only [List.getElem_map, List.getElem_range, Bool.and_false, Bool.or_false, Nat.lt_succ_self, decide_true, Bool.and_true]
    split
    · subst j; simp
    · have : ¬ j = b := by omega
      simp [this]
  · rename_i hne
    simp only [M.cols, List.getElem_map, List.getElem_range]
    refine List.ext_getElem (by simp) fun j h3 h4 => ?_
    simp only [List.getElem_map, List.getElem_range]
    congr 3
    exact decide_eq_decide.2 (by omega)
theorem Os.hi {α : Type} [GT α] {n : Nat} {w w' : World} {v : Value} {xs : List α} (h : Os n w v xs) (hi : Hi n w w') : Os n w' v xs := by
  obtain ⟨F, h1, h2⟩ := h
  refine ⟨F, h1.keep fun k hk => hi.2 k (h2.2 k hk).1, h2.1, fun k hk => ⟨(h2.2 k hk).1, ?_⟩⟩
  obtain ⟨hk1, cs, T, h3⟩ := h2.2 k hk
  exact ⟨cs, T, by unfold Bk at *; rw [hi.2 k hk1]; exact h3⟩
theorem impl_least (v : Value) (s : Setup) (w : World) (h : Rv w v s) (hn : s.Parts.length ≤ 5) :
    Calls Try.prog 37 #[v] w fun e w' => ∃ v', e = .returned v' ∧ Os w.heap.size w' v' (M.least s.Channels s.Parts.length) ∧ Ext w w' := by
  obtain ⟨a0, c0, a1, c1, a2, c2, rfl, h0, hl0, h1, hl1, h2, hl2⟩ := h.openSetup
  clear h
  have e0 := Lib.hid ((Ext.refl w).alloc (.cells #[.slice a0 s.Parts.length c0, .slice a1 s.Channels.length c1, .slice a2 s.Slots.length c2] 27))
  have hx := box3 (Ext.refl (w.alloc (.cells #[.slice a0 s.Parts.length c0, .slice a1 s.Channels.length c1, .slice a2 s.Slots.length c2] 27)))
  generalize hn' : s.Parts.length = n at *
  have hmk := make_BoolS n (by omega)
  have hmk2 := make_Bool n (by omega)
  go_enter Try.func37, Try.ntmps37
  go_wp2
  go_loopw [14] (fun i wr => ∃ k : Nat, k ≤ n ∧ i = .int .i64 k ∧ Os (w.heap.size + 1) wr (.slice (some ⟨w.heap.size + 1, 0, none⟩) n n) (List.replicate k (List.replicate n false) ++ List.replicate (n - k) []) ∧ Ext (w.alloc (.cells #[.slice a0 n c0, .slice a1 s.Channels.length c1, .slice a2 s.Slots.length c2] 27)) wr) (fun i _ => n - (intOf i).toNat)
  case atStart =>
    refine ⟨0, Nat.zero_le _, rfl, ?_, (Ext.refl _).alloc _⟩
    have := Os.made (α := List Bool) (w.alloc (.cells #[.slice a0 n c0, .slice a1 s.Channels.length c1, .slice a2 s.Slots.length c2] 27)) n 36 #[.slice none 0 0] [] rfl rfl (by omega)
    simpa [GT.sz] using this
  case round =>
    obtain ⟨k, hk, rfl, ho, hq⟩ := hrel
    have HO := Lib.hid ho
    have HQ := Lib.hid hq
    obtain ⟨hz, hb0, hb1, hb2⟩ := box3 hq
    clear ho hq
    by_cases hkt : k < n
    · obtain ⟨b2, o2, cs2, F2, x0, hb2', _, hL, ⟨v0, rfl, _⟩, hat, hf2⟩ := HO.out.at k (by simp; omega)
      cases hb2'
      have hd0 := hat 0 _ rfl
      have hBl := (HO.out.idx k (by simp; omega))
      obtain ⟨_, _, _, _, e, _, hom, _⟩ := hBl
      cases e
      have hBl := hom.bk.1
      simp only [GT.sz, Nat.mul_one, Nat.add_zero, Nat.zero_add] at hd0
      have HR := Lib.hid (by have := Os.made (α := Bool) wr n 4 #[.bool false] false rfl rfl (by omega); simpa [GT.sz] using this : Os wr.heap.size (wr.alloc (.cells (madeCells #[.bool false] n) 4)) (.slice (some ⟨wr.heap.size, 0, none⟩) n n) (List.replicate n false))
      have HP := Lib.hid (HO.out.put (i := k) ((Ext.refl wr).alloc (.cells (madeCells #[.bool false] n) 4)) (by simp; omega) (Nat.le_of_lt hBl) HR.out.ow)
      clear hat hom
      go_wp2
      go_roundw
      case rel =>
        refine ⟨k + 1, by omega, by go_num, ?_, ((HQ.out.set (by simp) _).alloc _)⟩
        have := HP.out
        rw [set_fill _ _ _ _ _ hkt (by simp)] at this
        simp only [putCells, GT.sz, Nat.zero_add, Nat.mul_one] at this
        rw [World.setCell_alloc_past _ _ _ _ hBl] at this
        simpa only [List.replicate_succ', ← List.append_assoc] using this
      case measure => simp [intOf]; omega
    · obtain rfl : k = n := by omega
      have HO1 : Hid (Os (w.heap.size + 1) wr (.slice (some ⟨w.heap.size + 1, 0, none⟩) k k) (M.cols s.Channels k 0 0)) := Lib.hid (by rw [M.cols_zero]; simpa using HO.out)
      clear HO
      obtain ⟨wo, rfl⟩ : ∃ wo : World, wo = wr := ⟨_, rfl⟩
      go_wp2
      go_loopw [27] (fun i wr => ∃ b : Nat, b ≤ k ∧ i = .int .i64 b ∧ Os (w.heap.size + 1) wr (.slice (some ⟨w.heap.size + 1, 0, none⟩) k k) (M.cols s.Channels k b 0) ∧ Ext (w.alloc (.cells #[.slice a0 k c0, .slice a1 s.Channels.length c1, .slice a2 s.Slots.length c2] 27)) wr) (fun i _ => k - (intOf i).toNat)
      case atStart => exact ⟨0, Nat.zero_le _, rfl, HO1.out, HQ.out⟩
      case round =>
        clear HO1 HQ hz hb0 hb1 hb2
        obtain ⟨b, hb, rfl, ho, hq⟩ := hrel
        have HO := Lib.hid ho
        have HQ := Lib.hid hq
        obtain ⟨hz, hb0, hb1, hb2⟩ := box3 hq
        clear ho hq
        by_cases hbt : b < k
        · obtain ⟨wo2, rfl⟩ : ∃ wo : World, wo = wr := ⟨_, rfl⟩
          go_wp2_with fail
          refine (impl_flows _ _ k b _ (h1.out.ext (e0.out.tr HQ.out)) hn hbt).mono ?_
          rintro e w1 ⟨v1, rfl, hr, he1⟩
          obtain ⟨a3, c3, rfl, hl3⟩ := hr.form
          rw [M.flows_len] at *
          have HR := Lib.hid hr
          have E1 := Lib.hid he1
          clear hr he1 hb0 hb1 hb2
          go_wp2
          go_loopw [38] (fun i wr => ∃ j : Nat, j ≤ k ∧ i = .int .i64 j ∧ Osb (w.heap.size + 1) wo2.heap.size wr (.slice (some ⟨w.heap.size + 1, 0, none⟩) k k) (M.cols s.Channels k b j) ∧ Hi wo2.heap.size w1 wr ∧ Ext (w.alloc (.cells #[.slice a0 k c0, .slice a1 s.Channels.length c1, .slice a2 s.Slots.length c2] 27)) wr) (fun i _ => k - (intOf i).toNat)
          case atStart => exact ⟨0, Nat.zero_le _, rfl, HO.out.osb.ext E1.out, Hi.refl _ _, HQ.out.tr E1.out⟩
          case round =>
            clear HO E1
            obtain ⟨j, hj, rfl, ho, hi, hq⟩ := hrel
            have HO := Lib.hid ho
            have HQ2 := Lib.hid hq
            have HI := Lib.hid hi
            clear ho hq hi
            by_cases hjt : j < k
            · obtain ⟨b9, o9, y, rfl, hb9, hy, hcy⟩ := (HR.out.hi HI.out).rs.atBool j (by rw [M.flows_len]; exact hjt)
              obtain ⟨g2, s2, c9, ha1, hle1, hle2, ha2, ha3, ha4, ha5, ha6, hg2, hput⟩ := HO.out.bool2 j b _ (M.cols_at s.Channels hjt) (by rw [M.colr_len]; exact hbt)
              have HY : Hid (M.cols s.Channels k b (j + 1) = (M.cols s.Channels k b j).set j ((M.colr s.Channels k b j false).set b y)) := Lib.hid (by
                rw [← M.cols_set s.Channels hbt hjt, List.getD_eq_getElem?_getD, hy.out]; rfl)
              rw [M.colr_len] at ha1 hle1 hle2
              rw [Nat.zero_add] at ha1
              go_wp2
              go_roundw
              case rel => exact ⟨j + 1, by omega, by go_num, by rw [HY.out]; exact hput.out _ _ (.refl _), HI.out.set hg2 _, HQ2.out.set (by simp; omega) _⟩
              case measure => simp [intOf]; omega
            · obtain rfl : j = k := by omega
              go_wp2
              go_roundw
              case rel => exact ⟨b + 1, by omega, by go_num, by rw [← M.cols_next]; exact HO.out.os, HQ2.out⟩
              case measure => simp [intOf]; omega
        · obtain rfl : b = k := by omega
          go_wp2
          go_ret
          exact ⟨_, rfl, by rw [← M.cols_all]; exact HO.out.mono (by omega), e0.out.tr HQ.out⟩
end Sk

