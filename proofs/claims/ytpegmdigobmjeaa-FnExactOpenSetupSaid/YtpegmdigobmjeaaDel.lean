/- Contracts of functions of the given program, and lemmas for them: each theorem states the condition under which it holds. -/
import Derived.Test.YtpegmdigobmjeaaChecked
import Derived.Lib.SliceRun
import Derived.Test.YtpegmdigobmjeaaCopy
namespace Sk
open Go Go.Proofs Go.RowKit
set_option maxHeartbeats 4000000
set_option maxRecDepth 100000
set_option linter.unusedVariables false
theorem chg_setCells (b : Nat) : ∀ (vs : List Value) (o : Nat) (w : World), Chg b o vs.length [] w (w.setCells b o vs)
  | [], o, w => Chg.refl _ _ _ _ _
  | v :: vs, o, w => by
    have h1 : Chg b o (vs.length + 1) [] w (w.setCell ⟨b, o, none⟩ v) := (Chg.refl _ _ _ _ _).set ⟨Nat.le_refl _, by omega⟩ _
    have h2 := chg_setCells b vs (o + 1) (w.setCell ⟨b, o, none⟩ v)
    exact h1.trF (h2.wide (by omega) (by omega) (fun _ h => h)) (fun _ h => by cases h)
theorem run_clear {α : Type} [GT α] {P : Program} (w : World) (t e : TypeId) (ht : P.underlying t = some (.slice e)) (hel : El P e α) (b o n c : Nat)
    (hc : ∀ j, j < n * GT.sz α → ∃ u, w.cell? ⟨b, o + j, none⟩ = some u) (hf : ∀ j, w.frozen? ⟨b, j, none⟩ = false) :
    ∃ w', (∀ ty, (Builtin.clear_ #[t] ty #[.slice (some ⟨b, o, none⟩) n c]).run P w = .ok (.tuple #[]) w') ∧ Chg b o (n * GT.sz α) [] w w' := by
  by_cases hn : n = 0
  · subst hn
    exact ⟨w, fun ty => by simp [Builtin.clear_, run_underlying ht], by rw [Nat.zero_mul]; exact Chg.refl _ _ _ _ _⟩
  · obtain ⟨i, z, bytes, hi, hz, hsz, hby, hzc, hb⟩ := hel
    have hzl : z.cells.size = GT.sz α := by rw [← GT.len (GT.zero (α := α) w), ← hzc]; simp
    have hlen : (Builtin.zeroCells z.cells n).toList.length = n * GT.sz α := by simp [Builtin.zeroCells, hzl]
    have h1 : ∀ v ∈ (Builtin.zeroCells z.cells n).toList, v.oneCell' = true := by
      intro v hv
      simp only [Builtin.zeroCells, Array.toList_map, List.mem_map, Array.mem_toList_iff, Array.mem_range] at hv
      obtain ⟨k, hk, rfl⟩ := hv
      have hp : 0 < z.cells.size := by rw [hzl]; exact GT.pos
      have hm := Nat.mod_lt k hp
      rw [getElem!_pos z.cells _ hm]
      exact GT.one (GT.zero (α := α) w) _ (by rw [← hzc]; simp)
    have hst := run_storeCells_cells (P := P) b o (Builtin.zeroCells z.cells n).toList 0 w (fun j hj => by rw [hlen] at hj; obtain ⟨u, hu⟩ := hc j hj; simp [hu]) (fun j hj => hf _) h1
    simp only [Nat.add_zero] at hst
    obtain ⟨m, rfl⟩ : ∃ m, n = m + 1 := ⟨n - 1, by omega⟩
    have hv : (zeroValue e).run P w = .ok z w := by simp [zeroValue, typeInfo, hi, hz]
    refine ⟨_, fun ty => by simp [Builtin.clear_, run_underlying ht, hv, hst]; rfl, ?_⟩
    have := chg_setCells b (Builtin.zeroCells z.cells (m + 1)).toList o w
    rwa [hlen] at this
theorem Chg.gb {b o n : Nat} {a c : World} (h : Chg b o n [] a c) : a.grownBy c (some b) := ⟨h.1.os, h.1.tape, h.1.output, h.sz, fun k hk hne => h.keep hk (fun e => hne (by rw [e])) (by simp)⟩
theorem filter_all {α : Type} {p : α → Bool} {xs : List α} (h : ∀ x ∈ xs, p x = false) : xs.filter (fun x => !p x) = xs := List.filter_eq_self.2 fun x hx => by simp [h x hx]
theorem filter_take {α : Type} {p : α → Bool} {xs : List α} {k : Nat} {x : α} (hx : xs[k]? = some x) : (xs.take (k + 1)).filter (fun x => !p x) = (xs.take k).filter (fun x => !p x) ++ (if p x then [] else [x]) := by
  rw [take_snoc hx, List.filter_append]
  cases h : p x <;> simp [h]
theorem drop_set {α : Type} {ys : List α} {i j : Nat} (h : i < j) (x : α) : (ys.set i x).drop j = ys.drop j := List.drop_set_of_lt h
theorem drop_succ_eq {α : Type} {xs ys : List α} {k : Nat} (h : ys.drop k = xs.drop k) : ys.drop (k + 1) = xs.drop (k + 1) := by
  rw [← List.drop_drop (i := 1) (j := k), ← List.drop_drop (i := 1) (j := k), h]
theorem get_of_drop {α : Type} {xs ys : List α} {k : Nat} (h : ys.drop k = xs.drop k) : ys[k]? = xs[k]? := by
  have := congrArg (fun l => l[0]?) h
  simpa using this
theorem del_Channel (g : Nat) (caps : Array Value) (p : Channel → Bool) (v : Value) (xs : List Channel) (w0 w : World) (L : Nat) (F : List Nat) (hs : Sl w v xs F) (hown : Own L w F) (h0 : Ext w0 w) (hL : w0.heap.size ≤ L) (hg : ∀ ar u, (callFunc g ar).run Try.prog u = .ok (.enter g ar) u)
    (hc : ∀ (w1 : World) (v : Value) (x : Channel), Ext w0 w1 → x ∈ xs → Rv w1 v x → Calls Try.prog g (#[v] ++ caps) w1 fun e w2 => e = .returned (.bool (p x)) ∧ Ext w1 w2) :
    Calls Try.prog 74 #[v, .func (.func g) #[] caps] w fun e w' => ∃ v', e = .returned v' ∧ Rs w' v' (xs.filter (fun x => !p x)) ∧ ∃ row, w.grownBy w' row ∧ ∀ k, row = some k → k ∈ F := by
  have hO : Os L w v xs := ⟨F, hs, hown⟩
  have HX := Lib.hid (idx_Channel g caps p v xs w hO.rs hg (fun w1 v x he hx hv => hc w1 v x (h0.tr he) hx hv))
  obtain ⟨a, c, rfl, hl⟩ := hO.form
  have HO := Lib.hid hO
  have H0 := Lib.hid h0
  have HC := Lib.hid hc
  clear hO h0 hc hown
  replace hs := Lib.hid hs
  cases hf : xs.findIdx? p with
  | none =>
    have hm : Hid (M.idx p xs = -1) := Lib.hid (by unfold M.idx; rw [hf])
    have hfa : Hid (xs.filter (fun x => !p x) = xs) := Lib.hid (filter_all (by simpa using hf))
    clear hf HC
    go_enter Try.func74, Try.ntmps74
    go_wp2_with fail
    refine HX.out.mono ?_
    rw [hm.out]
    rintro e w1 ⟨rfl, he⟩
    have HE := Lib.hid he
    clear he HX
    go_wp2
    go_ret
    exact ⟨_, rfl, by rw [hfa.out]; exact (HO.out.ext HE.out).rs, none, HE.out.gb _, fun k hk => by cases hk⟩
  | some k0 =>
    have hm : Hid (M.idx p xs = k0) := Lib.hid (by unfold M.idx; rw [hf])
    obtain ⟨hk0, hp0, hpn⟩ := List.findIdx?_eq_some_iff_getElem.1 hf
    have hpre : ∀ x ∈ xs.take k0, p x = false := fun x hx => by
      obtain ⟨j, hj, rfl⟩ := List.mem_take_iff_getElem.1 hx
      have := hpn j (by omega)
      simpa using this
    have hst : Hid (xs.take k0 = (xs.take (k0 + 1)).filter (fun x => !p x)) := Lib.hid (by
      rw [filter_take (x := xs[k0]) (by simp [hk0]), filter_all hpre, hp0]; simp)
    clear hf hpn hp0 hpre
    generalize hnn : xs.length = n at *
    obtain ⟨b, o, _, _, rfl, hjunk⟩ := HO.out.idx k0 (by omega)
    clear hjunk
    have hbW : b < w.heap.size ∧ L ≤ b := by
      obtain ⟨b', o', Fy, x, hb, _, hom, _⟩ := HO.out.idx k0 (by omega)
      cases hb
      exact ⟨hom.bk.1, hom.bk.2.1⟩
    have hbF : Hid (b ∈ F) := by
      obtain ⟨a', c', e, h1, h2, ⟨rfl, _⟩ | ⟨hne, b', o', F', e2, rfl, hr⟩⟩ := hs.out
      · simp at hnn; omega
      · have : a' = some ⟨b, o, none⟩ := by cases e; rfl
        rw [this] at e2
        cases e2
        exact Lib.hid (by simp)
    clear hs
    go_enter Try.func74, Try.ntmps74
    go_wp2_with fail
    refine HX.out.mono ?_
    rw [hm.out]
    rintro e w1 ⟨rfl, he⟩
    have HE := Lib.hid he
    clear he HX
    have hkb : ((k0 : Int) == -1) = false := by rw [beq_eq_false_iff_ne]; omega
    go_wp2_with fail
    try simp only [hkb]
    go_loopw [5, 6] (fun i j wr => ∃ (ii jj : Nat) (ys : List Channel), ii < jj ∧ jj ≤ n ∧ i = .int .i64 ii ∧ j = .int .i64 jj ∧ ys.length = n ∧ Os L wr (.slice (some ⟨b, o, none⟩) n c) ys ∧ ys.take ii = (xs.take jj).filter (fun x => !p x) ∧ ys.drop jj = xs.drop jj ∧ w.grownBy wr (some b)) (fun _ j _ => n - (intOf j).toNat)
    case atStart => exact ⟨k0, k0 + 1, xs, by omega, by omega, rfl, by go_num, hnn, HO.out.ext HE.out, hst.out, rfl, HE.out.gb _⟩
    case round =>
      obtain ⟨ii, jj, ys, hij, hjn, rfl, rfl, hyl, ho, htk, hdr, hgr⟩ := hrel
      have HY := Lib.hid ho
      have HT := Lib.hid htk
      have HD := Lib.hid hdr
      have HG := Lib.hid hgr
      have E0 := Lib.hid (Ext.grown H0.out hgr (fun k hk => by cases hk; omega))
      clear ho htk hdr hgr
      by_cases hlt : jj < n
      · obtain ⟨b', o', x, hbo, hb, hx1, hc0, hc1, hc2, hc3, hr0, hr1, hr2, hr3, hv⟩ := HY.out.rs.atChannel jj (by omega)
        cases hbo
        have hxs := Lib.hid ((get_of_drop HD.out).symm.trans hx1.out)
        go_wp2_with fail
        refine (HC.out _ _ x (E0.out.alloc _) (List.mem_of_getElem? hxs.out) (hv.out.ext ((Ext.refl _).alloc _))).mono ?_
        rintro e w2 ⟨rfl, he2⟩
        have hX2 := ((Ext.refl wr).alloc (.cells #[.int .i64 x.Kind, .int .i64 x.From, .int .i64 x.To, .int .i64 x.Size] 66 (0, 0))).tr he2
        have BK := (Bk.new wr [.int .i64 x.Kind, .int .i64 x.From, .int .i64 x.To, .int .i64 x.Size] 66).ext he2
        have l0 := BK.cell (j := 0) rfl
        have l1 := BK.cell (j := 1) rfl
        have l2 := BK.cell (j := 2) rfl
        have l3 := BK.cell (j := 3) rfl
        have HY2 := Lib.hid (HY.out.ext hX2)
        have HG2 := Lib.hid (HG.out.trans (hX2.gb (some b)))
        have E2 := Lib.hid (E0.out.tr hX2)
        have hbl := BK.lt
        clear HY HG E0 hX2 BK he2 HC hc0 hc1 hc2 hc3
        have hft := Lib.hid (filter_take (p := p) hxs.out)
        have hyd := Lib.hid (drop_succ_eq HD.out)
        by_cases hp : p x = true
        · rw [hp] at hft
          replace hft : Hid (List.filter (fun x => !p x) (List.take (jj + 1) xs) = List.filter (fun x => !p x) (List.take jj xs)) := Lib.hid (hft.out.trans (by simp))
          go_wp2
          go_roundw
          case rel => exact ⟨ii, jj + 1, ys, by omega, by omega, rfl, by go_num, hyl, HY2.out, by rw [hft.out]; exact HT.out, hyd.out, HG2.out⟩
          case measure => simp [intOf]; omega
        · rw [Bool.not_eq_true] at hp
          rw [hp] at hft
          replace hft : Hid (List.filter (fun x => !p x) (List.take (jj + 1) xs) = List.filter (fun x => !p x) (List.take jj xs) ++ [x]) := Lib.hid hft.out
          obtain ⟨b2, s2, Fy, y0, hb2, hy0, hom, hback⟩ := HY2.out.idx ii (by omega)
          cases hb2
          have hfz := hom.bk.2.2.2
          obtain ⟨cs, hen, hat, hown⟩ := hom
          have hFy := Fl.nof hen
          subst hFy
          obtain ⟨rfl, _⟩ := hen
          have m0 := hat 0 _ rfl
          have m1 := hat 1 _ rfl
          have m2 := hat 2 _ rfl
          have m3 := hat 3 _ rfl
          simp only [GT.sz, Nat.add_zero] at m0 m1 m2 m3
          have HB := Lib.hid hback
          have HOW := Lib.hid hown
          clear hback hat hown
          go_wp2
          refine ⟨⟨ii + 1, jj + 1, ys.set ii x, by omega, by omega, by go_num, by go_num, by simpa using hyl, HB.out _ x [] ?_ ⟨[.int .i64 x.Kind, .int .i64 x.From, .int .i64 x.To, .int .i64 x.Size], ⟨rfl, hr0, hr1, hr2, hr3, rfl⟩, ?_, ?_⟩ (by simp), ?_, (drop_set (by omega) _).trans hyd.out, HG2.out.trans (Chg.gb (o := o + ii * 4) (n := 4) ?_)⟩, by simp [intOf]; omega⟩
          · exact (show Chg b (o + ii * 4) 4 [] w2 _ from ((((Chg.refl _ _ _ _ _).set ⟨by omega, by omega⟩ _).set ⟨by omega, by omega⟩ _).set ⟨by omega, by omega⟩ _).set ⟨by omega, by omega⟩ _)
          · intro j y hj
            match j, hj with
            | 0, hj => cases hj; rw [cell_set_other (by simp [GT.sz]), cell_set_other (by simp [GT.sz]), cell_set_other (by simp [GT.sz])]; exact cell_set m0
            | 1, hj => cases hj; rw [cell_set_other (by simp [GT.sz]), cell_set_other (by simp [GT.sz])]; exact cell_set ((cell_set_other (by omega)).trans m1)
            | 2, hj => cases hj; rw [cell_set_other (by simp [GT.sz])]; exact cell_set ((cell_set_other (by omega)).trans ((cell_set_other (by omega)).trans m2))
            | 3, hj => cases hj; exact cell_set ((cell_set_other (by omega)).trans ((cell_set_other (by omega)).trans ((cell_set_other (by omega)).trans m3)))
          · exact (((HOW.out.set _ _).set _ _).set _ _).set _ _
          · rw [hft.out, take_snoc (k := ii) (x := x) (List.getElem?_set_self (by omega)), List.take_set_of_le (Nat.le_refl _), HT.out]
          · exact ((((Chg.refl _ _ _ _ _).set ⟨by omega, by omega⟩ _).set ⟨by omega, by omega⟩ _).set ⟨by omega, by omega⟩ _).set ⟨by omega, by omega⟩ _
      · obtain rfl : jj = n := by omega
        clear HC
        have hnc : jj ≤ c := by
          obtain ⟨F, ⟨a', c', e, h1, _⟩, _⟩ := HY.out
          cases e; omega
        have hic : ii < c := by omega
        obtain ⟨F5, hs, hw⟩ := HY.out
        obtain ⟨a', c', e, h1, h2, hcase⟩ := hs
        have ec : c' = c := by cases e; rfl
        have ea : a' = some ⟨b, o, none⟩ := by cases e; rfl
        rw [ec] at h1 h2
        clear ec
        rcases hcase with ⟨rfl, _⟩ | ⟨hne, b', o', F', e2, rfl, hr⟩
        · simp at hyl; omega
        rw [ea] at e2
        cases e2
        clear e ea
        have hFl := hr.fl
        subst hFl
        obtain ⟨cells, hcl, hcat, hc1⟩ := hr.cells
        have hfz : ∀ j, wr.frozen? ⟨b, j, none⟩ = false := by
          obtain ⟨_, cs, T, hb⟩ := hw.2 b (by simp)
          exact hb.fz
        have hl4 : cells.length = jj * 4 := by rw [hcl, hyl]; rfl
        obtain ⟨w3, hclr, hch⟩ := run_clear (α := Channel) (P := Try.prog) wr 24 66 Try.underlying24 elChannel b (o + ii * 4) (jj - ii) (c - ii)
          (fun j hj => by
            replace hj : j < (jj - ii) * 4 := hj
            have hj2 : ii * 4 + j < cells.length := by omega
            exact ⟨cells[ii * 4 + j], by rw [Nat.add_assoc]; exact hcat _ _ (List.getElem?_eq_getElem hj2)⟩) hfz
        have hfin : Hid (Rs w3 (.slice (some ⟨b, o, none⟩) ii c) (xs.filter (fun x => !p x))) := Lib.hid (by
          have hT := HT.out
          rw [List.take_of_length_le (l := xs) (by omega)] at hT
          rw [← hT]
          have htl : (ys.take ii).length = ii := by simp; omega
          obtain ⟨F1, F2, e3, hr1, hr2⟩ := (show Row wr b o (ys.take ii ++ ys.drop ii) [] by rw [List.take_append_drop]; exact hr).split
          have hF1 := hr1.fl
          subst hF1
          by_cases hz : ys.take ii = []
          · rw [hz] at htl ⊢
            simp at htl
            subst htl
            exact ⟨[], _, c, rfl, Nat.zero_le _, by omega, .inl ⟨rfl, rfl⟩⟩
          · refine ⟨[b], _, c, by rw [htl], by omega, by omega, .inr ⟨hz, b, o, [], rfl, rfl, hr1.move (fun k hk => by cases hk) fun j y hj hy => ?_⟩⟩
            replace hj : j < (ys.take ii).length * 4 := hj
            rw [htl] at hj
            rw [hch.cell (by left; omega)]; exact hy)
        have hg3 := Lib.hid (HG.out.trans hch.gb)
        clear hch hcat hc1 hr hne hw HY HT HD HG E0
        go_wp2_with (simp only [hclr])
        go_ret
        exact ⟨_, rfl, hfin.out, _, hg3.out, fun k hk => by cases hk; exact hbF.out⟩
end Sk

