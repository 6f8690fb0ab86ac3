/- Contracts of functions of the given program, and lemmas for them: each theorem states the condition under which it holds. -/
import Derived.Test.YtmkibejcdldjeaaChecked
import Derived.Lib.SliceRun
import Derived.Deep.CutBlock
import Derived.Deep.CutRange
import Derived.Test.YtmkibejcdldjeaaCopy
namespace Sk
open Go Go.Proofs Go.RowKit
set_option maxHeartbeats 4000000
set_option maxRecDepth 100000
set_option linter.unusedVariables false
set_option linter.unusedSimpArgs false
theorem chg_setCells (b : Nat) : ∀ (vs : List Value) (o : Nat) (w : World), Chg b o vs.length [] w (w.setCells b o vs)
  | [], o, w => Chg.refl _ _ _ _ _
  | v :: vs, o, w => by
    have h1 : Chg b o (vs.length + 1) [] w (w.setCell ⟨b, o, none⟩ v) := (Chg.refl _ _ _ _ _).set ⟨Nat.le_refl _, by omega⟩ _
    have h2 := chg_setCells b vs (o + 1) (w.setCell ⟨b, o, none⟩ v)
    exact h1.trF (h2.wide (by omega) (by omega) (fun _ h => h)) (fun _ h => by cases h)
theorem run_clear {α : Type} [GT α] {P : Program} (w : World) (t e : TypeId) (ht : P.underlying t = some (.slice e)) (hel : El P e α) (b o n c : Nat)
    (hc : ∀ j, j < n * GT.sz α → ∃ u, w.cell? ⟨b, o + j, none⟩ = some u) (hf : ∀ j, w.frozen? ⟨b, j, none⟩ = false) :
    ∃ w', (∀ ty, (Builtin.clear_ #[t] ty #[.slice (some ⟨b, o, none⟩) n c]).run P w = .ok (.tuple #[]) w') ∧ Chg b o (n * GT.sz α) [] w w' := by
  by_cases hn : n = 0
  · subst hn
    exact ⟨w, fun ty => by simp [Builtin.clear_, run_underlying ht], by rw [Nat.zero_mul]; exact Chg.refl _ _ _ _ _⟩
  · obtain ⟨i, z, bytes, hi, hz, hsz, hby, hzc, hb⟩ := hel
    have hzl : z.cells.size = GT.sz α := by rw [← GT.len (GT.zero (α := α) w), ← hzc]; simp
    have hlen : (Builtin.zeroCells z.cells n).toList.length = n * GT.sz α := by simp [Builtin.zeroCells, hzl]
    have h1 : ∀ v ∈ (Builtin.zeroCells z.cells n).toList, v.oneCell' = true := by
      intro v hv
      simp only [Builtin.zeroCells, Array.toList_map, List.mem_map, Array.mem_toList_iff, Array.mem_range] at hv
      obtain ⟨k, hk, rfl⟩ := hv
      have hp : 0 < z.cells.size := by rw [hzl]; exact GT.pos
      have hm := Nat.mod_lt k hp
      rw [getElem!_pos z.cells _ hm]
      exact GT.one (GT.zero (α := α) w) _ (by rw [← hzc]; simp)
    have hst := run_storeCells_cells (P := P) b o (Builtin.zeroCells z.cells n).toList 0 w (fun j hj => by rw [hlen] at hj; obtain ⟨u, hu⟩ := hc j hj; simp [hu]) (fun j hj => hf _) h1
    simp only [Nat.add_zero] at hst
    obtain ⟨m, rfl⟩ : ∃ m, n = m + 1 := ⟨n - 1, by omega⟩
    have hv : (zeroValue e).run P w = .ok z w := by simp [zeroValue, typeInfo, hi, hz]
    refine ⟨_, fun ty => by simp [Builtin.clear_, run_underlying ht, hv, hst]; rfl, ?_⟩
    have := chg_setCells b (Builtin.zeroCells z.cells (m + 1)).toList o w
    rwa [hlen] at this
theorem Chg.gb {b o n : Nat} {a c : World} (h : Chg b o n [] a c) : a.grownBy c (some b) := ⟨h.1.os, h.1.tape, h.1.output, h.sz, fun k hk hne => h.keep hk (fun e => hne (by rw [e])) (by simp)⟩
theorem filter_all {α : Type} {p : α → Bool} {xs : List α} (h : ∀ x ∈ xs, p x = false) : xs.filter (fun x => !p x) = xs := List.filter_eq_self.2 fun x hx => by simp [h x hx]
theorem filter_take {α : Type} {p : α → Bool} {xs : List α} {k : Nat} {x : α} (hx : xs[k]? = some x) : (xs.take (k + 1)).filter (fun x => !p x) = (xs.take k).filter (fun x => !p x) ++ (if p x then [] else [x]) := by
  rw [take_snoc hx, List.filter_append]
  cases h : p x <;> simp [h]
theorem drop_set {α : Type} {ys : List α} {i j : Nat} (h : i < j) (x : α) : (ys.set i x).drop j = ys.drop j := List.drop_set_of_lt h
theorem drop_succ_eq {α : Type} {xs ys : List α} {k : Nat} (h : ys.drop k = xs.drop k) : ys.drop (k + 1) = xs.drop (k + 1) := by
  rw [← List.drop_drop (i := 1) (j := k), ← List.drop_drop (i := 1) (j := k), h]
theorem get_of_drop {α : Type} {xs ys : List α} {k : Nat} (h : ys.drop k = xs.drop k) : ys[k]? = xs[k]? := by
  have := congrArg (fun l => l[0]?) h
  simpa using this
theorem del_Channel (g : Nat) (caps : Array Value) (p : Channel → Bool) (v : Value) (xs : List Channel) (w0 w : World) (L : Nat) (F : List Nat) (hs : Sl w v xs F) (hown : Own L w F) (h0 : Ext w0 w) (hL : w0.heap.size ≤ L) (hg : ∀ ar u, (callFunc g ar).run Try.prog u = .ok (.enter g ar) u)
    (hc : ∀ (w1 : World) (v : Value) (x : Channel), Ext w0 w1 → x ∈ xs → Rv w1 v x → Calls Try.prog g (#[v] ++ caps) w1 fun e w2 => e = .returned (.bool (p x)) ∧ Ext w1 w2) :
    Calls Try.prog 25 #[v, .func (.func g) #[] caps] w fun e w' => ∃ v', e = .returned v' ∧ Rs w' v' (xs.filter (fun x => !p x)) ∧ ∃ row, w.grownBy w' row ∧ ∀ k, row = some k → k ∈ F := by
  have hO : Os L w v xs := ⟨F, hs, hown⟩
  have HX := Lib.hid (idx_Channel g caps p v xs w hO.rs hg (fun w1 v x he hx hv => hc w1 v x (h0.tr he) hx hv))
  obtain ⟨a, c, rfl, hl⟩ := hO.form
  have HO := Lib.hid hO
  have H0 := Lib.hid h0
  have HC := Lib.hid hc
  clear hO h0 hc hown
  replace hs := Lib.hid hs
  cases hf : xs.findIdx? p with
  | none =>
    have hm : Hid (M.idx p xs = -1) := Lib.hid (by unfold M.idx; rw [hf])
    have hfa : Hid (xs.filter (fun x => !p x) = xs) := Lib.hid (filter_all (by simpa using hf))
    clear hf HC
    go_enter Try.func25, Try.ntmps25
    go_wp2_with fail
    refine HX.out.mono ?_
    rw [hm.out]
    rintro e w1 ⟨rfl, he⟩
    have HE := Lib.hid he
    clear he HX
    go_wp2
    go_ret
    exact ⟨_, rfl, by rw [hfa.out]; exact (HO.out.ext HE.out).rs, none, HE.out.gb _, fun k hk => by cases hk⟩
  | some k0 =>
    have hm : Hid (M.idx p xs = k0) := Lib.hid (by unfold M.idx; rw [hf])
    obtain ⟨hk0, hp0, hpn⟩ := List.findIdx?_eq_some_iff_getElem.1 hf
    have hpre : ∀ x ∈ xs.take k0, p x = false := fun x hx => by
      obtain ⟨j, hj, rfl⟩ := List.mem_take_iff_getElem.1 hx
      have := hpn j (by omega)
      simpa using this
    have hst : Hid (xs.take k0 = (xs.take (k0 + 1)).filter (fun x => !p x)) := Lib.hid (by
      rw [filter_take (x := xs[k0]) (by simp [hk0]), filter_all hpre, hp0]; simp)
    clear hf hpn hp0 hpre
    generalize hnn : xs.length = n at *
    obtain ⟨b, o, _, _, rfl, hjunk⟩ := HO.out.idx k0 (by omega)
    clear hjunk
    have hbW : b < w.heap.size ∧ L ≤ b := by
      obtain ⟨b', o', Fy, x, hb, _, hom, _⟩ := HO.out.idx k0 (by omega)
      cases hb
      exact ⟨hom.bk.1, hom.bk.2.1⟩
    have hbF : Hid (b ∈ F) := by
      obtain ⟨a', c', e, h1, h2, ⟨rfl, _⟩ | ⟨hne, b', o', F', e2, rfl, hr⟩⟩ := hs.out
      · simp at hnn; omega
      · have : a' = some ⟨b, o, none⟩ := by cases e; rfl
        rw [this] at e2
        cases e2
        exact Lib.hid (by simp)
    clear hs
    go_enter Try.func25, Try.ntmps25
    go_wp2_with fail
    refine HX.out.mono ?_
    rw [hm.out]
    rintro e w1 ⟨rfl, he⟩
    have HE := Lib.hid he
    clear he HX
    have hkb : ((k0 : Int) == -1) = false := by rw [beq_eq_false_iff_ne]; omega
    go_wp2_with fail
    try simp only [hkb]
    go_loopw [5, 6] (fun i j wr => ∃ (ii jj : Nat) (ys : List Channel), ii < jj ∧ jj ≤ n ∧ i = .int .i64 ii ∧ j = .int .i64 jj ∧ ys.length = n ∧ Os L wr (.slice (some ⟨b, o, none⟩) n c) ys ∧ ys.take ii = (xs.take jj).filter (fun x => !p x) ∧ ys.drop jj = xs.drop jj ∧ w.grownBy wr (some b)) (fun _ j _ => n - (intOf j).toNat)
    case atStart => exact ⟨k0, k0 + 1, xs, by omega, by omega, rfl, by go_num, hnn, HO.out.ext HE.out, hst.out, rfl, HE.out.gb _⟩
    case round =>
      obtain ⟨ii, jj, ys, hij, hjn, rfl, rfl, hyl, ho, htk, hdr, hgr⟩ := hrel
      have HY := Lib.hid ho
      have HT := Lib.hid htk
      have HD := Lib.hid hdr
      have HG := Lib.hid hgr
      have E0 := Lib.hid (Ext.grown H0.out hgr (fun k hk => by cases hk; omega))
      clear ho htk hdr hgr
      by_cases hlt : jj < n
      · obtain ⟨b', o', x, hbo, hb, hx1, hc0, hc1, hc2, hc3, hr0, hr1, hr2, hr3, hv⟩ := HY.out.rs.atChannel jj (by omega)
        cases hbo
        have hxs := Lib.hid ((get_of_drop HD.out).symm.trans hx1.out)
        go_wp2_with fail
        refine (HC.out _ _ x (E0.out.alloc _) (List.mem_of_getElem? hxs.out) (hv.out.ext ((Ext.refl _).alloc _))).mono ?_
        rintro e w2 ⟨rfl, he2⟩
        have hX2 := ((Ext.refl wr).alloc (.cells #[.int .i64 x.Kind, .int .i64 x.From, .int .i64 x.To, .int .i64 x.Size] 38 (0, 0))).tr he2
        have BK := (Bk.new wr [.int .i64 x.Kind, .int .i64 x.From, .int .i64 x.To, .int .i64 x.Size] 38).ext he2
        have l0 := BK.cell (j := 0) rfl
        have l1 := BK.cell (j := 1) rfl
        have l2 := BK.cell (j := 2) rfl
        have l3 := BK.cell (j := 3) rfl
        have HY2 := Lib.hid (HY.out.ext hX2)
        have HG2 := Lib.hid (HG.out.trans (hX2.gb (some b)))
        have E2 := Lib.hid (E0.out.tr hX2)
        have hbl := BK.lt
        clear HY HG E0 hX2 BK he2 HC hc0 hc1 hc2 hc3
        have hft := Lib.hid (filter_take (p := p) hxs.out)
        have hyd := Lib.hid (drop_succ_eq HD.out)
        by_cases hp : p x = true
        · rw [hp] at hft
          replace hft : Hid (List.filter (fun x => !p x) (List.take (jj + 1) xs) = List.filter (fun x => !p x) (List.take jj xs)) := Lib.hid (hft.out.trans (by simp))
          go_wp2
          go_roundw
          case rel => exact ⟨ii, jj + 1, ys, by omega, by omega, rfl, by go_num, hyl, HY2.out, by rw [hft.out]; exact HT.out, hyd.out, HG2.out⟩
          case measure => simp [intOf]; omega
        · rw [Bool.not_eq_true] at hp
          rw [hp] at hft
          replace hft : Hid (List.filter (fun x => !p x) (List.take (jj + 1) xs) = List.filter (fun x => !p x) (List.take jj xs) ++ [x]) := Lib.hid hft.out
          obtain ⟨b2, s2, Fy, y0, hb2, hy0, hom, hback⟩ := HY2.out.idx ii (by omega)
          cases hb2
          have hfz := hom.bk.2.2.2
          obtain ⟨cs, hen, hat, hown⟩ := hom
          have hFy := Fl.nof hen
          subst hFy
          obtain ⟨rfl, _⟩ := hen
          have m0 := hat 0 _ rfl
          have m1 := hat 1 _ rfl
          have m2 := hat 2 _ rfl
          have m3 := hat 3 _ rfl
          simp only [GT.sz, Nat.add_zero] at m0 m1 m2 m3
          have HB := Lib.hid hback
          have HOW := Lib.hid hown
          clear hback hat hown
          go_wp2
          refine ⟨⟨ii + 1, jj + 1, ys.set ii x, by omega, by omega, by go_num, by go_num, by simpa using hyl, HB.out _ x [] ?_ ⟨[.int .i64 x.Kind, .int .i64 x.From, .int .i64 x.To, .int .i64 x.Size], ⟨rfl, hr0, hr1, hr2, hr3, rfl⟩, ?_, ?_⟩ (by simp), ?_, (drop_set (by omega) _).trans hyd.out, HG2.out.trans (Chg.gb (o := o + ii * 4) (n := 4) ?_)⟩, by simp [intOf]; omega⟩
          · exact (show Chg b (o + ii * 4) 4 [] w2 _ from ((((Chg.refl _ _ _ _ _).set ⟨by omega, by omega⟩ _).set ⟨by omega, by omega⟩ _).set ⟨by omega, by omega⟩ _).set ⟨by omega, by omega⟩ _)
          · intro j y hj
            match j, hj with
            | 0, hj => cases hj; rw [cell_set_other (by simp [GT.sz]), cell_set_other (by simp [GT.sz]), cell_set_other (by simp [GT.sz])]; exact cell_set m0
            | 1, hj => cases hj; rw [cell_set_other (by simp [GT.sz]), cell_set_other (by simp [GT.sz])]; exact cell_set ((cell_set_other (by omega)).trans m1)
            | 2, hj => cases hj; rw [cell_set_other (by simp [GT.sz])]; exact cell_set ((cell_set_other (by omega)).trans ((cell_set_other (by omega)).trans m2))
            | 3, hj => cases hj; exact cell_set ((cell_set_other (by omega)).trans ((cell_set_other (by omega)).trans ((cell_set_other (by omega)).trans m3)))
          · exact (((HOW.out.set _ _).set _ _).set _ _).set _ _
          · rw [hft.out, take_snoc (k := ii) (x := x) (List.getElem?_set_self (by omega)), List.take_set_of_le (Nat.le_refl _), HT.out]
          · exact ((((Chg.refl _ _ _ _ _).set ⟨by omega, by omega⟩ _).set ⟨by omega, by omega⟩ _).set ⟨by omega, by omega⟩ _).set ⟨by omega, by omega⟩ _
      · obtain rfl : jj = n := by omega
        clear HC
        have hnc : jj ≤ c := by
          obtain ⟨F, ⟨a', c', e, h1, _⟩, _⟩ := HY.out
          cases e; omega
        have hic : ii < c := by omega
        obtain ⟨F5, hs, hw⟩ := HY.out
        obtain ⟨a', c', e, h1, h2, hcase⟩ := hs
        have ec : c' = c := by cases e; rfl
        have ea : a' = some ⟨b, o, none⟩ := by cases e; rfl
        rw [ec] at h1 h2
        clear ec
        rcases hcase with ⟨rfl, _⟩ | ⟨hne, b', o', F', e2, rfl, hr⟩
        · simp at hyl; omega
        rw [ea] at e2
        cases e2
        clear e ea
        have hFl := hr.fl
        subst hFl
        obtain ⟨cells, hcl, hcat, hc1⟩ := hr.cells
        have hfz : ∀ j, wr.frozen? ⟨b, j, none⟩ = false := by
          obtain ⟨_, cs, T, hb⟩ := hw.2 b (by simp)
          exact hb.fz
        have hl4 : cells.length = jj * 4 := by rw [hcl, hyl]; rfl
        obtain ⟨w3, hclr, hch⟩ := run_clear (α := Channel) (P := Try.prog) wr 24 38 Try.underlying24 elChannel b (o + ii * 4) (jj - ii) (c - ii)
          (fun j hj => by
            replace hj : j < (jj - ii) * 4 := hj
            have hj2 : ii * 4 + j < cells.length := by omega
            exact ⟨cells[ii * 4 + j], by rw [Nat.add_assoc]; exact hcat _ _ (List.getElem?_eq_getElem hj2)⟩) hfz
        have hfin : Hid (Rs w3 (.slice (some ⟨b, o, none⟩) ii c) (xs.filter (fun x => !p x))) := Lib.hid (by
          have hT := HT.out
          rw [List.take_of_length_le (l := xs) (by omega)] at hT
          rw [← hT]
          have htl : (ys.take ii).length = ii := by simp; omega
          obtain ⟨F1, F2, e3, hr1, hr2⟩ := (show Row wr b o (ys.take ii ++ ys.drop ii) [] by rw [List.take_append_drop]; exact hr).split
          have hF1 := hr1.fl
          subst hF1
          by_cases hz : ys.take ii = []
          · rw [hz] at htl ⊢
            simp at htl
            subst htl
            exact ⟨[], _, c, rfl, Nat.zero_le _, by omega, .inl ⟨rfl, rfl⟩⟩
          · refine ⟨[b], _, c, by rw [htl], by omega, by omega, .inr ⟨hz, b, o, [], rfl, rfl, hr1.move (fun k hk => by cases hk) fun j y hj hy => ?_⟩⟩
            replace hj : j < (ys.take ii).length * 4 := hj
            rw [htl] at hj
            rw [hch.cell (by left; omega)]; exact hy)
        have hg3 := Lib.hid (HG.out.trans hch.gb)
        clear hch hcat hc1 hr hne hw HY HT HD HG E0
        go_wp2_with (simp only [hclr])
        go_ret
        exact ⟨_, rfl, hfin.out, _, hg3.out, fun k hk => by cases hk; exact hbF.out⟩
end Sk

namespace Sk
open Go Go.Proofs Go.RowKit
set_option maxHeartbeats 4000000
set_option maxRecDepth 100000
set_option linter.unusedVariables false
set_option linter.unusedSimpArgs false
/-- May the channel stay? -/
def M.ck (q : List (List Bool)) (c : Channel) : Bool := M.at2 q c.From.toNat c.To.toNat && (!(c.Kind == 3) || M.at2 q c.To.toNat c.From.toNat)
theorem M.pv_get {q : List (List Bool)} {n : Nat} (h : M.pv q n = true) {i j : Nat} (hi : i < n) (hj : j < n) : ∃ r x, q[i]? = some r ∧ r.length = n ∧ r[j]? = some x ∧ M.at2 q i j = x := by
  have hl := M.pv_len h
  have hr : q[i]? = some q[i] := List.getElem?_eq_getElem (by omega)
  have hrl := M.pv_row h hr
  have hx : q[i][j]? = some q[i][j] := List.getElem?_eq_getElem (by omega)
  exact ⟨_, _, hr, hrl, hx, M.at2_of hr hx⟩
theorem impl_CutChannels_1 (v : Value) (x : Channel) (b1 : Nat) (qa : Option Addr) (qc n i j : Nat) (q : List (List Bool)) (w : World) (h : Rv w v x) (hb1 : b1 < w.heap.size) (hc1 : w.cell? ⟨b1, 0, none⟩ = some (.slice qa n qc))
    (hq : Rs w (.slice qa n qc) q) (hp : M.pv q n = true) (hn : n ≤ 5) (hi : x.From = i) (hj : x.To = j) (hin : i < n) (hjn : j < n) :
    Calls Try.prog 26 #[v, .pointer (some ⟨b1, 0, none⟩)] w fun e w' => e = .returned (.bool (!M.ck q x)) ∧ Ext w w' := by
  obtain ⟨rfl, hr0, hr1, hr2, hr3⟩ := h.openChannel
  clear h
  have hql := M.pv_len hp
  obtain ⟨b, o, r, ra, rc, rfl, lt1, hr, hd1, hrs, _⟩ := hq.atList i (by omega)
  obtain ⟨b', o', s, sa, sc, hbo, lt2, hs, hd2, hss, _⟩ := hq.atList j (by omega)
  cases hbo
  have hrl := M.pv_row hp hr.out
  have hsl := M.pv_row hp hs.out
  rw [hrl] at hd1 hrs
  rw [hsl] at hd2 hss
  obtain ⟨b5, o5, y, rfl, lt5, hy, hd5⟩ := hrs.out.atBool j (by omega)
  obtain ⟨b6, o6, z, rfl, lt6, hz, hd6⟩ := hss.out.atBool i (by omega)
  have hm : Hid (M.ck q x = (y && (!(x.Kind == 3) || z))) := Lib.hid (by
    unfold M.ck; rw [hi, hj, Int.toNat_natCast, Int.toNat_natCast, M.at2_of hr.out hy.out, M.at2_of hs.out hz.out])
  rw [hi, hj]
  clear hi hj hq hp hr hs hy hz hrs hss
  cases y <;> cases hk : (x.Kind == 3) <;> cases z
  all_goals
    rw [hk] at hm
    go_enter Try.func26, Try.ntmps26
    go_upto_region 1 with (fail)
    go_big_quiet (fail)
    go_wp2
    go_ret
    exact ⟨wp_cond_ret (by rw [hm.out]; rfl), ((Ext.refl w).alloc _).drewN _⟩
noncomputable def M.cut (s : Setup) (q : List (List Bool)) : Setup := if M.setv s && M.pv q s.Parts.length then { s with Channels := s.Channels.filter (M.ck q) } else default
theorem M.cut_t {s : Setup} {q : List (List Bool)} (h : M.setv s = true) (k : M.pv q s.Parts.length = true) : M.cut s q = { s with Channels := s.Channels.filter (M.ck q) } := if_pos (by rw [h, k]; rfl)
theorem M.cut_f {s : Setup} {q : List (List Bool)} (h : M.setv s = false ∨ M.pv q s.Parts.length = false) : M.cut s q = default := if_neg (by rcases h with h | h <;> rw [h] <;> simp)
theorem ov_zero {α : Type} [GT α] {L : Nat} {w : World} : Ov L w (.agg (GT.zc α).toArray) (default : α) := ⟨_, [], rfl, GT.zero w, Own.nil _ _⟩
theorem M.cv_nat {s : Setup} (h : M.setv s = true) {x : Channel} (hx : x ∈ s.Channels) : ∃ i j : Nat, x.From = i ∧ x.To = j ∧ i < s.Parts.length ∧ j < s.Parts.length := by
  have h1 := M.setv_csv h
  unfold M.csv at h1
  simp only [Bool.and_eq_true] at h1
  have h2 := List.all_eq_true.1 h1.2.2 x hx
  obtain ⟨_, h3, h4, _⟩ := M.cv_iff.1 h2
  exact ⟨x.From.toNat, x.To.toNat, by omega, by omega, by omega, by omega⟩
theorem impl_CutChannels (v v1 : Value) (s : Setup) (q : List (List Bool)) (w : World) (h : Rv w v s) (hq : Rs w v1 q) (hn : GT.tot s ≤ 1048576) :
    Calls Try.prog 8 #[v, v1] w fun e w' => ∃ v', e = .returned v' ∧ Ov w.heap.size w' v' (M.cut s q) ∧ Ext w w' := by
  have H0 := Lib.hid h
  have HQ0 := Lib.hid hq
  obtain ⟨aq, cq, rfl, hlq⟩ := hq.form
  obtain ⟨a0, c0, a1, c1, a2, c2, rfl, h0, hl0, h1, hl1, h2, hl2⟩ := h.openSetup
  clear h h0 h1 h2 hq
  have hnl : s.Parts.length ≤ 1048576 := Nat.le_trans tot_len (by have : GT.tot s = GT.tot s.Parts + GT.tot s.Channels + GT.tot s.Slots := rfl; omega)
  go_enter Try.func8, Try.ntmps8
  go_upto_region 1 with (fail)
  refine abs_world (fun W => Ext w W ∧ Bk W w.heap.size [.slice a0 s.Parts.length c0, .slice a1 s.Channels.length c1, .slice a2 s.Slots.length c2] 27 ∧ Bk W (w.heap.size + 1) [.slice aq q.length cq] 28 ∧ Bk W (w.heap.size + 1 + 1) [.slice none 0 0, .slice none 0 0, .slice none 0 0] 27) ⟨(((Ext.refl _).alloc _).alloc _).alloc _, (Bk.new _ _ _).ext (((Ext.refl _).alloc _).alloc _), (Bk.new1 _ _ _ _).ext ((Ext.refl _).alloc _), Bk.new2 _ _ _ _ _⟩ ?_
  rintro w0 ⟨E, KA, KB, KC⟩
  have ltC := KC.lt
  have u0 := KA.cell (j := 0) rfl
  have u1 := KA.cell (j := 1) rfl
  have u2 := KA.cell (j := 2) rfl
  have u3 := KB.cell (j := 0) rfl
  replace E := Lib.hid E; replace KA := Lib.hid KA; replace KB := Lib.hid KB; replace KC := Lib.hid KC
  cases g : M.setv s
  · have hm := Lib.hid (M.cut_f (q := q) (.inl g))
    go_upto_region 2 with (go_at_call 14; refine (impl_SetupValid _ s _ (H0.out.ext E.out)).mono ?_; rintro e w1 ⟨rfl, he1⟩; have E1 := Lib.hid he1; clear he1)
    have z0 := (KC.out.ext E1.out).cell (j := 0) rfl
    have z1 := (KC.out.ext E1.out).cell (j := 1) rfl
    have z2 := (KC.out.ext E1.out).cell (j := 2) rfl
    have zf := (KC.out.ext E1.out).fz
    go_wp2
    refine bodyPost_ret (v := .agg #[.slice none 0 0, .slice none 0 0, .slice none 0 0]) (by simp [results, Try.results8, go_sem, z0, z1, z2]) rfl ⟨_, rfl, by rw [hm.out]; exact ov_zero (α := Setup), ?_⟩
    exact ((((E.out.tr E1.out)).set (by simp <;> omega) _).set (by simp <;> omega) _).set (by simp <;> omega) _
  · have hp5 := M.setv_parts g
    cases gk : M.pv q s.Parts.length
    · have hm := Lib.hid (M.cut_f (s := s) (.inr gk))
      go_upto_region 2 with (first
        | (go_at_call 14; refine (impl_SetupValid _ s _ (H0.out.ext E.out)).mono ?_; rintro e w1 ⟨rfl, he1⟩; have t0 := (KA.out.ext he1).cell (j := 0) rfl; have t1 := (KB.out.ext he1).cell (j := 0) rfl; have E1 := Lib.hid he1; clear he1)
        | (go_at_call 22; refine (implPolicyValid _ q _ _ (HQ0.out.ext (E.out.tr E1.out))).mono ?_; rintro e w2 ⟨rfl, hq2⟩; have E2 := Lib.hid (E1.out.tr hq2.ext); clear hq2))
      have z0 := (KC.out.ext E2.out).cell (j := 0) rfl
      have z1 := (KC.out.ext E2.out).cell (j := 1) rfl
      have z2 := (KC.out.ext E2.out).cell (j := 2) rfl
      have zf := (KC.out.ext E2.out).fz
      go_wp2
      refine bodyPost_ret (v := .agg #[.slice none 0 0, .slice none 0 0, .slice none 0 0]) (by simp [results, Try.results8, go_sem, z0, z1, z2]) rfl ⟨_, rfl, by rw [hm.out]; exact ov_zero (α := Setup), ?_⟩
      exact ((((E.out.tr E2.out)).set (by simp <;> omega) _).set (by simp <;> omega) _).set (by simp <;> omega) _
    · have hm := Lib.hid (M.cut_t g gk)
      go_upto_region 4 with (first
        | (go_at_call 14; refine (impl_SetupValid _ s _ (H0.out.ext E.out)).mono ?_; rintro e w1 ⟨rfl, he1⟩; have t0 := (KA.out.ext he1).cell (j := 0) rfl; have t1 := (KB.out.ext he1).cell (j := 0) rfl; have E1 := Lib.hid he1; clear he1)
        | (go_at_call 22; refine (implPolicyValid _ q _ _ (HQ0.out.ext (E.out.tr E1.out))).mono ?_; rintro e w2 ⟨rfl, hq2⟩; have E2 := Lib.hid (E1.out.tr hq2.ext); have s0 := (KA.out.ext E2.out).cell (j := 0) rfl; have s1 := (KA.out.ext E2.out).cell (j := 1) rfl; have s2 := (KA.out.ext E2.out).cell (j := 2) rfl; clear hq2)
        | (go_at_call 23; refine (impl_copyOf_Setup _ s _ (H0.out.ext (E.out.tr E2.out)) hn).mono ?_; rintro e w3 ⟨v3, rfl, ⟨_, _, rfl, ⟨x0, x1, x2, F0, F1, F2, rfl, S0, S1, S2, rfl⟩, ow3⟩, he3⟩; have HS0 := Lib.hid S0; have HS1 := Lib.hid S1; have HS2 := Lib.hid S2; have HOW := Lib.hid ow3; have E3 := Lib.hid he3; obtain ⟨p0, q0, rfl, _⟩ := id S0; obtain ⟨p1, q1, rfl, _⟩ := id S1; obtain ⟨p2, q2, rfl, _⟩ := id S2; clear S0 S1 S2 ow3 he3))
      refine abs_world (fun W => Ext w3 W ∧ Bk W w3.heap.size [.slice p0 s.Parts.length q0, .slice p1 s.Channels.length q1, .slice p2 s.Slots.length q2] 27) ⟨(Ext.refl _).alloc _, Bk.new _ _ _⟩ ?_
      rintro W ⟨EX, BX⟩
      have EXW := Lib.hid EX
      have E2W := Lib.hid (E3.out.tr EX)
      have hF : ∀ k ∈ F0 ++ (F1 ++ F2), k < w3.heap.size ∧ w2.heap.size ≤ k := fun k hk => ⟨HOW.out.lt hk, (HOW.out.2 k hk).1⟩
      have hl02 : w0.heap.size ≤ w2.heap.size := E2.out.sz
      have hl0 := E.out.sz
      have hl3 := E3.out.sz
      have hne3 : w.heap.size + 1 + 1 ≠ w3.heap.size := by omega
      have hne4 : w3.heap.size ≠ w.heap.size + 1 + 1 := by omega
      have hchl := M.setv_chans g
      have HDEL := Lib.hid (del_Channel 26 #[.pointer (some ⟨w.heap.size + 1, 0, none⟩)] (fun x => !M.ck q x) _ s.Channels w2 W w2.heap.size F1 (HS1.out.ext EX) (HOW.out.right.left.ext EX) E2W.out (Nat.le_refl _) (enter_of Try.func26 (by kernel_rfl) (by kernel_rfl))
        (fun w1 v x he hx hv => by
          obtain ⟨i, j, hi, hj, hin, hjn⟩ := M.cv_nat g hx
          have hql := M.pv_len gk
          have := impl_CutChannels_1 v x (w.heap.size + 1) aq cq s.Parts.length i j q w1 hv (by have := he.sz; omega) (by rw [← hql]; exact (KB.out.ext (E2.out.tr he)).cell (j := 0) rfl) (by rw [← hql]; exact HQ0.out.ext (E.out.tr (E2.out.tr he))) gk hp5 hi hj hin hjn
          exact this))
      have x0 := BX.cell (j := 0) rfl
      have x1 := BX.cell (j := 1) rfl
      have x2 := BX.cell (j := 2) rfl
      have xl := BX.lt
      replace BX := Lib.hid BX
      clear EX
      have hff : Hid ((fun x => !(!M.ck q x)) = M.ck q) := Lib.hid (by funext x; simp)
      replace hF := Lib.hid hF
      go_wp2_with (first
        | (go_at_call 25; refine HDEL.out.mono ?_; rw [hff.out]; rintro e w5 ⟨v5, rfl, hr5, row, hg5, hrow⟩
           have hr1 : ∀ k, row = some k → k ∈ F0 ++ (F1 ++ F2) := fun k hk => List.mem_append_right _ (List.mem_append_left _ (hrow k hk))
           have HG := Lib.hid hg5
           have G0 := Lib.hid ((HS0.out.ext EXW.out).grown hg5 (fun k hk e => HOW.out.parted k hk (List.mem_append_left _ (hrow k e))))
           have G2 := Lib.hid ((HS2.out.ext EXW.out).grown hg5 (fun k hk e => HOW.out.right.parted k (hrow k e) hk))
           have O0 := Lib.hid ((HOW.out.left.ext EXW.out).grown hg5 (fun k hk e => HOW.out.parted k hk (List.mem_append_left _ (hrow k e))))
           have O2 := Lib.hid ((HOW.out.right.right.ext EXW.out).grown hg5 (fun k hk e => HOW.out.right.parted k (hrow k e) hk))
           have B5 := Lib.hid (BX.out.grown hg5 (fun e => by have := (hF.out _ (hr1 _ e)).1; omega))
           have C5 := Lib.hid ((KC.out.ext (E2.out.tr E2W.out)).grown hg5 (fun e => by have := (hF.out _ (hr1 _ e)).2; omega))
           have E5 := Lib.hid (Ext.grown (E.out.tr (E2.out.tr E2W.out)) hg5 (fun k hk => by have := (hF.out _ (hr1 _ hk)).2; omega))
           obtain ⟨G, hG⟩ := hr5
           have HG5 := Lib.hid hG
           obtain ⟨p5, q5, rfl, _⟩ := id hG
           clear hg5 hrow hr1 hG HDEL)
        | (go_at_call 24; refine (impl_clone_Channel _ _ _ _ HG5.out (Nat.le_trans (List.length_filter_le _ _) (by omega))).mono ?_; rintro e w6 ⟨v6, F6, rfl, ho6, _, _, he6⟩
           obtain ⟨G6, s6, ow6⟩ := ho6.flat
           have S6 := Lib.hid s6
           have O6 := Lib.hid ow6
           have E6 := Lib.hid he6
           obtain ⟨p6, q6, rfl, _⟩ := id s6
           have y0 := (B5.out.ext he6).cell (j := 0) rfl
           have y1 := (B5.out.ext he6).cell (j := 1) rfl
           have y2 := (B5.out.ext he6).cell (j := 2) rfl
           have yf := (B5.out.ext he6).fz
           have z0 := (C5.out.ext he6).cell (j := 0) rfl
           have z1 := (C5.out.ext he6).cell (j := 1) rfl
           have z2 := (C5.out.ext he6).cell (j := 2) rfl
           have zf := (C5.out.ext he6).fz
           clear s6 ow6 he6 ho6))
      have h3 : ∀ {L : List Nat}, (∀ k ∈ L, k ∈ F0 ++ (F1 ++ F2)) → w3.heap.size ∉ L ∧ w.heap.size + 1 + 1 ∉ L := fun hL => ⟨fun hm => by have := (hF.out _ (hL _ hm)).1; omega, fun hm => by have := (hF.out _ (hL _ hm)).2; omega⟩
      have n0 := h3 (L := F0) (fun k hk => List.mem_append_left _ hk)
      have n2 := h3 (L := F2) (fun k hk => List.mem_append_right _ (List.mem_append_right _ hk))
      have l5 := B5.out.lt
      have c5 := C5.out.lt
      have n6 : w3.heap.size ∉ G6 ∧ w.heap.size + 1 + 1 ∉ G6 := ⟨fun hm => by have := (O6.out.2 _ hm).1; omega, fun hm => by have := (O6.out.2 _ hm).1; omega⟩
      have ha02 : Apart F0 F2 := fun k h1 h2 => HOW.out.parted k h1 (List.mem_append_right _ h2)
      have OO : Own w2.heap.size w6 (F0 ++ (G6 ++ F2)) := (O0.out.ext E6.out).join ((O6.out.mono (by omega)).join (O2.out.ext E6.out) (Apart.symm (Apart.far (fun k hk => O2.out.lt hk) (fun k hk => (O6.out.2 k hk).1)))) (fun k h1 h2 => (List.mem_append.1 h2).elim (fun h2 => by have := O0.out.lt h1; have := (O6.out.2 k h2).1; omega) (fun h2 => ha02 k h1 h2))
      refine bodyPost_ret (v := .agg #[.slice p0 s.Parts.length q0, .slice p6 (s.Channels.filter (M.ck q)).length q6, .slice p2 s.Slots.length q2]) (by simp [results, Try.results8, go_sem, z0, z1, z2, hne3, hne4]) rfl ⟨_, rfl, ?_, ?_⟩
      · rw [hm.out]
        exact ⟨_, _, rfl, ⟨_, _, _, _, _, _, rfl, ((((G0.out.ext E6.out).set n0.1 _).set n0.2 _).set n0.2 _).set n0.2 _, (((S6.out.set n6.1 _).set n6.2 _).set n6.2 _).set n6.2 _, ((((G2.out.ext E6.out).set n2.1 _).set n2.2 _).set n2.2 _).set n2.2 _, rfl⟩, ((((OO.mono (by omega)).set _ _).set _ _).set _ _).set _ _⟩
      · exact ((((E5.out.tr E6.out).set (by show _ ≤ w3.heap.size; omega) _).set (by simp <;> omega) _).set (by simp <;> omega) _).set (by simp <;> omega) _
end Sk

