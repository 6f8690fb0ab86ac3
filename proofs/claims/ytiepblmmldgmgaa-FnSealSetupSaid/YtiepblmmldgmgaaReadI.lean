/- Contracts of functions of the given program, and lemmas for them: each theorem states the condition under which it holds. -/
import Derived.Test.YtiepblmmldgmgaaChecked
import Derived.Deep.CutBlock
import Derived.Deep.CutRange
import Derived.Test.YtiepblmmldgmgaaOb
import Derived.Test.YtiepblmmldgmgaaCopy
import Derived.Test.YtiepblmmldgmgaaDel
namespace Sk
open Go Go.Proofs Go.RowKit
set_option maxHeartbeats 4000000
set_option maxRecDepth 100000
set_option linter.unusedVariables false
set_option linter.unusedSimpArgs false
def RngS (s : M.St) : Prop := ∀ x ∈ s.1, rng x
theorem RngS.nx {s : M.St} (h : RngS s) : rng (M.nx s) := by
  obtain ⟨xs, b⟩ := s
  cases xs with
  | nil => exact rng_zero
  | cons x xs => exact h x (List.mem_cons_self ..)
theorem RngS.ns {s : M.St} (h : RngS s) : RngS (M.ns s) := fun x hx => h x (List.mem_of_mem_tail hx)
theorem M.dec_rng {x : Int} (h : rng x) : rng (M.dec x) := by
  unfold M.dec rng at *
  split <;> omega
theorem Rs.rngs {w : World} {v : Value} {xs : List Int} (h : Rs w v xs) : ∀ x ∈ xs, rng x := fun x hx => by
  obtain ⟨k, hk⟩ := List.getElem?_of_mem hx
  obtain ⟨a, c, rfl, _⟩ := h.form
  obtain ⟨b, o, y, _, _, hy, _, hr⟩ := h.atInt k (List.getElem?_eq_some_iff.1 hk).1
  have := hy.out
  rw [hk] at this; cases this; exact hr
/-- The first reader (type 70) has numbers of a word. -/
theorem Rn.rngs {W w : World} {b : Nat} {s : M.St} (h : Rn W w b s.1 s.2) : RngS s := by obtain ⟨_, _, a, c, _, h4⟩ := h; exact h4.rngs
theorem Rn.cast {W w : World} {b : Nat} {l l' : List Int} {c c' : Bool} (h : Rn W w b l c) (h1 : l' = l) (h2 : c' = c) : Rn W w b l' c' := by subst h1; subst h2; exact h
theorem Mo.mw2 {R S : Nat} {a b : World} (h : Mo [R] a b) : Mw [R, S] a b := Mw.wide (Mw.ofMo h) (by simp)
theorem impl_ReadSetup (v : Value) (xs : List Int) (w : World) (h : Rs w v xs) :
    Calls Try.prog 14 #[v] w fun e w' => ∃ v', e = .returned (.tuple #[v', .bool (M.readS xs).2]) ∧ Ov w.heap.size w' v' (M.readS xs).1 ∧ Ext w w' := by
  obtain ⟨a, c, rfl, hl⟩ := h.form
  have H := Lib.hid h
  clear h
  go_enter Try.func14, Try.ntmps14
  go_upto_region 3 with (fail)
  refine abs_world (fun W => Ext w W ∧ Bk W w.heap.size [.slice none 0 0, .slice none 0 0, .slice none 0 0] 27 ∧ Rn w W (w.heap.size + 1) xs false ∧ Bk W (w.heap.size + 2) [.slice none 0 0, .slice none 0 0, .slice none 0 0] 27) ?_ ?_
  · refine ⟨(((Ext.refl _).alloc _).alloc _).alloc _, (Bk.new _ _ _).ext (((Ext.refl _).alloc _).alloc _), ⟨by omega, (((Ext.refl _).alloc _).alloc _).alloc _, a, c, (Bk.new1 _ _ _ _).ext ((Ext.refl _).alloc _), H.out⟩, Bk.new2 _ _ _ _ _⟩
  rintro W0 ⟨E0, KB0, RN0, KS0⟩
  have hz0 : w.heap.size + 3 ≤ W0.heap.size := KS0.lt
  have hww : w.heap.size < w.heap.size + 1 := by omega
  generalize hB0 : w.heap.size = B0 at *
  obtain ⟨R, hR⟩ : ∃ R, R = B0 + 1 := ⟨_, rfl⟩
  obtain ⟨S, hS⟩ : ∃ S, S = R + 1 := ⟨_, rfl⟩
  rw [← hR] at RN0 ⊢
  rw [← hS]
  rw [show B0 + 2 = S by omega] at KS0
  have hBR : B0 < R := by omega
  have hRS : R < S := by omega
  have hSz : S < W0.heap.size := by omega
  clear hR hS hz0 hww
  replace hB0 := Lib.hid hB0
  replace E0 := Lib.hid E0; replace KB0 := Lib.hid KB0; replace RN0 := Lib.hid RN0; replace KS0 := Lib.hid KS0
  go_wp2_with (go_at_call 38; refine (impl_many _ _ _ _ _ _ RN0.out).mono ?_; rintro e W1 ⟨r, rfl, hr0, hrr, hm, hn⟩; have HQ := Lib.hid hr0; have HM1 := Lib.hid hm; have RN1 := Lib.hid hn; clear hm hn hr0)
  have hr := HQ.out
  clear HQ
  have hb5 := M.many_bd xs (m := 5) (by omega)
  have HN5 : Hid (r = M.mx 5 (xs, false)) := Lib.hid hr
  rw [← hr] at hb5
  obtain ⟨n5, hn5⟩ : ∃ n : Nat, r = n := ⟨r.toNat, by omega⟩
  subst hn5
  have h5n : n5 ≤ 5 := by omega
  clear hb5 hrr hr
  have KS1 := Lib.hid (HM1.out.bk KS0.out (by simp; omega))
  have KB1 := Lib.hid (HM1.out.bk KB0.out (by simp; omega))
  have hz1 : S < W1.heap.size := by rw [HM1.out.lt]; exact hSz
  obtain ⟨s1, hs1⟩ : ∃ s : M.St, s = M.ms 5 (xs, false) := ⟨_, rfl⟩
  have RS1 : Hid (Rn w W1 R s1.1 s1.2) := Lib.hid (by rw [hs1]; exact RN1.out)
  clear RN1 RN0 HM1 KS0 KB0 E0
  replace hs1 := Lib.hid hs1
  go_loopw [12] (fun i wr => ∃ (k : Nat) (ao : Option Addr) (no co : Nat), k ≤ n5 ∧ i = .int .i64 k ∧ Mw [R, S] W1 wr ∧ Bk wr S [.slice ao no co, .slice none 0 0, .slice none 0 0] 27 ∧ Oo 58 W1.heap.size wr (.slice ao no co) (M.iter M.iP1 k s1).1 ∧ Rn w wr R (M.iter M.iP1 k s1).2.1 (M.iter M.iP1 k s1).2.2) (fun i _ => n5 - (intOf i).toNat)
  case atStart => exact ⟨0, _, _, _, Nat.zero_le _, rfl, Mw.refl _ _, KS1.out, Oo.nil _ _ _, RS1.out⟩
  case round =>
    obtain ⟨k, ao, no, co, hk, rfl, hmw, hks, hoo, hrn⟩ := hrel
    have MW := Lib.hid hmw
    have KS := Lib.hid hks
    have HO := Lib.hid hoo
    have RN := Lib.hid hrn
    have hzr := hmw.size
    have hpl := M.iter_len M.iP1 k s1
    clear hmw hks hoo hrn
    by_cases hkt : k < n5
    · have HST : Hid (M.iter M.iP1 (k + 1) s1 = ((M.iter M.iP1 k s1).1 ++ [(M.iP1 (M.iter M.iP1 k s1).2).1], (M.iP1 (M.iter M.iP1 k s1).2).2)) := Lib.hid rfl
      generalize (M.iter M.iP1 k s1).2 = sk at *
      generalize (M.iter M.iP1 k s1).1 = pk at *
      go_upto_region 6 with (go_at_call 39; refine (impl_next _ _ _ _ _ RN.out).mono ?_; rintro e W2 ⟨r2, rfl, hr2, hrr2, hm2, hn2⟩)
      have hr2' : r2 = M.nx sk := hr2
      subst hr2'
      have hsz2 := hm2.lt
      have hzz2 : wr.heap.size ≤ W2.heap.size := by omega
      clear hsz2
      have MW2 := Lib.hid (MW.out.tr hm2.mw2)
      have KS2 := Lib.hid (hm2.bk KS.out (by simp; omega))
      have HO2 := Lib.hid ((HO.out.mo hm2 (by simp; omega)).ob)
      have RN2 : Hid (Rn w W2 R (M.ns sk).1 (M.ns sk).2) := Lib.hid hn2
      clear hr2 hm2 hn2 MW KS HO RN
      refine abs_world (fun W => Ext W2 W ∧ Bk W W2.heap.size [.slice none 0 0, .int .i64 (M.nx sk)] 58) ⟨(Ext.refl _).alloc _, Bk.new _ _ _⟩ ?_
      rintro W3 ⟨e3, KP⟩
      have hP3 := KP.lt
      generalize hP : W2.heap.size = P at *
      have hSP : S < P := by omega
      replace hP := Lib.hid hP
      have MW3 := Lib.hid (MW2.out.tr (Mw.ofExt e3))
      have KS3 := Lib.hid (KS2.out.ext e3)
      have HO3 := Lib.hid (HO2.out.of (fun k _ h => e3.block k (by have := hP.out; omega)))
      have RN3 := Lib.hid (RN2.out.ext e3)
      replace KP := Lib.hid KP
      clear e3 MW2 KS2 HO2 RN2
      go_wp2_with (go_at_call 38; refine (impl_many _ _ _ _ _ _ RN3.out).mono ?_; rintro e W4 ⟨r, rfl, hr0, hrr, hm, hn⟩; have HQ := Lib.hid hr0; have HM4 := Lib.hid hm; have RN4 := Lib.hid hn; clear hm hn hr0)
      have hr := HQ.out
      clear HQ
      have hb12 := M.many_bd (M.ns sk).1 (m := 12) (by omega)
      have HNW : Hid (r = M.mx 12 (M.ns sk)) := Lib.hid hr
      rw [← hr] at hb12
      obtain ⟨nw, hnw⟩ : ∃ n : Nat, r = n := ⟨r.toNat, by omega⟩
      subst hnw
      have h12n : nw ≤ 12 := by omega
      clear hb12 hrr hr
      have hsz4 := Nat.le_of_eq HM4.out.lt.symm
      have MW4 := Lib.hid (MW3.out.tr HM4.out.mw2)
      have KS4 := Lib.hid (HM4.out.bk KS3.out (by simp; omega))
      have KP4 := Lib.hid (HM4.out.bk KP.out (by simp; omega))
      have HO4 := Lib.hid (HO3.out.of (fun k h1 h2 => HM4.out.2.2.1 k (by simp; omega)))
      obtain ⟨s2, hs2⟩ : ∃ s : M.St, s = M.ms 12 (M.ns sk) := ⟨_, rfl⟩
      have RS2 : Hid (Rn w W4 R s2.1 s2.2) := Lib.hid (by rw [hs2]; exact RN4.out)
      have hP4 : P < W4.heap.size := KP4.out.lt
      clear RN4 RN3 HM4 KS3 KP HO3 MW3
      replace hs2 := Lib.hid hs2
      go_loopw [19] (fun i wi => ∃ (j : Nat) (wb : Option Addr) (wm wd : Nat), j ≤ nw ∧ i = .int .i64 j ∧ Mw [R, P] W4 wi ∧ Bk wi P [.slice wb wm wd, .int .i64 (M.nx sk)] 58 ∧ Oo 60 W4.heap.size wi (.slice wb wm wd) (M.iter M.iW1 j s2).1 ∧ Rn w wi R (M.iter M.iW1 j s2).2.1 (M.iter M.iW1 j s2).2.2) (fun i _ => nw - (intOf i).toNat)
      case atStart => exact ⟨0, _, _, _, Nat.zero_le _, rfl, Mw.refl _ _, KP4.out, Oo.nil _ _ _, RS2.out⟩
      case round =>
        obtain ⟨j, wb, wm, wd, hj, rfl, hmw, hkp, hoo, hrn⟩ := hrel
        have MWi := Lib.hid hmw
        have KPi := Lib.hid hkp
        have HOi := Lib.hid hoo
        have RNi := Lib.hid hrn
        have hzi := hmw.size
        have hcell := hkp.cell (j := 0) rfl
        have hcell1 := hkp.cell (j := 1) rfl
        have hpf := hkp.fz
        have hwl := M.iter_len M.iW1 j s2
        clear hmw hkp hoo hrn
        by_cases hjt : j < nw
        · have HSW : Hid (M.iter M.iW1 (j + 1) s2 = ((M.iter M.iW1 j s2).1 ++ [(M.iW1 (M.iter M.iW1 j s2).2).1], (M.iW1 (M.iter M.iW1 j s2).2).2)) := Lib.hid rfl
          generalize (M.iter M.iW1 j s2).2 = sj at *
          generalize (M.iter M.iW1 j s2).1 = wj at *
          have hrs := RNi.out.rngs
          have rr0 := hrs.nx
          have rr1 := hrs.ns.nx
          have rr2 := hrs.ns.ns.nx
          have hRL : R < W4.heap.size := by omega
          have hlen1 : wj.length + 1 ≤ 4294967296 := by omega
          have hPlt : P < wr.heap.size := by omega
          clear hrs
          go_upto_region 8 with (fail)
          have hF0 : ∀ k ∈ R :: (Value.slice wb wm wd).ownBlock.toList, k < wr.heap.size := fun k hk => by
            rcases List.mem_cons.1 hk with rfl | hk
            · exact RNi.out.lt
            · exact HOi.out.lt k (Option.mem_toList.1 hk)
          have hrowL : ∀ k, (Value.slice wb wm wd).ownBlock = some k → W4.heap.size ≤ k := HOi.out.own
          have hPF : P ∉ R :: (Value.slice wb wm wd).ownBlock.toList := fun hm => by
            rcases List.mem_cons.1 hm with e | hm
            · omega
            · have := hrowL _ (Option.mem_toList.1 hm); omega
          have hFR : R ∈ R :: (Value.slice wb wm wd).ownBlock.toList := List.mem_cons_self ..
          have hFrow : ∀ k, (Value.slice wb wm wd).ownBlock = some k → k ∈ R :: (Value.slice wb wm wd).ownBlock.toList := fun k hk => List.mem_cons_of_mem _ (Option.mem_toList.2 hk)
          have hFsub : ∀ k ∈ R :: (Value.slice wb wm wd).ownBlock.toList, k = R ∨ W4.heap.size ≤ k := fun k hk => (List.mem_cons.1 hk).imp (fun h => h) (fun h => hrowL k (Option.mem_toList.1 h))
          generalize R :: (Value.slice wb wm wd).ownBlock.toList = F0 at *
          refine wp_region_thr rfl 13 [(21, [21]), (22, [22]), (23, [23]), (24, [24]), (25, [25]), (26, [26]), (27, [27]), (28, [28]), (29, [29]), (30, [30]), (31, [31]), (32, [32]), (33, [33])]
            (fun i vs u F => match i, vs with
              | 0, [y] => y = .pointer (some ⟨P, 0, none⟩)
              | 1, [y] => y = .slice wb wm wd
              | 2, [y] => y = .pointer (some ⟨R, 0, none⟩)
              | 3, [y] => y = .int .i64 (M.nx sj)
              | 4, [y] => y = .pointer (some ⟨R, 0, none⟩)
              | 5, [y] => y = .int .i64 (M.nx (M.ns sj))
              | 6, [y] => y = .pointer (some ⟨R, 0, none⟩)
              | 7, [y] => y = .int .i64 (M.nx (M.ns (M.ns sj)))
              | 8, [y] => y = .bool (M.nx (M.ns (M.ns sj)) == 1)
              | 9, [y] => y = .agg #[.int .i64 (M.nx sj), .int .i64 (M.nx (M.ns sj)), .bool (M.nx (M.ns (M.ns sj)) == 1)]
              | 10, [y] => ∃ lb, y = .slice (some ⟨lb, 0, none⟩) 1 1 ∧ wr.heap.size ≤ lb ∧ Bk u lb [.int .i64 (M.nx sj), .int .i64 (M.nx (M.ns sj)), .bool (M.nx (M.ns (M.ns sj)) == 1)] 60
              | 11, [_] => True
              | 12, [y] => y = .pointer (some ⟨P, 0, none⟩)
              | _, _ => False) F0 hF0 [3, 5, 7, 11] (fun c vs u => match c, vs with
              | 0, _ => Rn w u R sj.1 sj.2 ∧ Oo 60 W4.heap.size u (.slice wb wm wd) wj
              | 1, _ => Rn w u R (M.ns sj).1 (M.ns sj).2 ∧ Oo 60 W4.heap.size u (.slice wb wm wd) wj
              | 2, _ => Rn w u R (M.ns (M.ns sj)).1 (M.ns (M.ns sj)).2 ∧ Oo 60 W4.heap.size u (.slice wb wm wd) wj
              | 3, _ => Rn w u R (M.ns (M.ns (M.ns sj))).1 (M.ns (M.ns (M.ns sj))).2 ∧ Oo 60 W4.heap.size u (.slice wb wm wd) wj
              | 4, [_, _, _, y] => Rn w u R (M.ns (M.ns (M.ns sj))).1 (M.ns (M.ns (M.ns sj))).2 ∧ Oo 60 W4.heap.size u y (wj ++ [(M.iW1 sj).1])
              | _, _ => False) (by decide +kernel) (by decide +kernel) (fun w2 h => ⟨RNi.out.ext h, HOi.out.ext h⟩) ?_ ?_ ?_
          · intro i hi hnt o ho U u F hE hd hap
            have e0 := (hE.cell (o := 0) hPF (by omega)).trans hcell
            rcases (by omega : i = 0 ∨ i = 1 ∨ i = 2 ∨ i = 3 ∨ i = 4 ∨ i = 5 ∨ i = 6 ∨ i = 7 ∨ i = 8 ∨ i = 9 ∨ i = 10 ∨ i = 11 ∨ i = 12) with rfl | rfl | rfl | rfl | rfl | rfl | rfl | rfl | rfl | rfl | rfl | rfl | rfl
            · cases ho
              simp only [putAll_toArray, put_toArray, List.map_cons, List.map_nil, setL, List.set_cons_succ, List.set_cons_zero, Bd.d, List.getD_cons_succ, List.getD_cons_zero]
              intro K hK
              go_wp2
              exact hK _ [] _ (Ext.refl u) (fun _ _ => rfl) (Own.nil _ _)
            · cases ho
              simp only [putAll_toArray, put_toArray, List.map_cons, List.map_nil, setL, List.set_cons_succ, List.set_cons_zero, Bd.d, List.getD_cons_succ, List.getD_cons_zero]
              have d0 := (hd 0 (by decide +kernel)).1
              simp only [Bd.u, List.getD_cons_succ, List.getD_cons_zero, List.map_cons, List.map_nil] at d0
              try simp only [d0]
              clear d0
              intro K hK
              go_wp2
              exact hK _ [] _ (Ext.refl u) (fun _ _ => rfl) (Own.nil _ _)
            · cases ho
              simp only [putAll_toArray, put_toArray, List.map_cons, List.map_nil, setL, List.set_cons_succ, List.set_cons_zero, Bd.d, List.getD_cons_succ, List.getD_cons_zero]
              intro K hK
              go_wp2
              exact hK _ [] _ (Ext.refl u) (fun _ _ => rfl) (Own.nil _ _)
            · exact absurd (by decide) hnt
            · cases ho
              simp only [putAll_toArray, put_toArray, List.map_cons, List.map_nil, setL, List.set_cons_succ, List.set_cons_zero, Bd.d, List.getD_cons_succ, List.getD_cons_zero]
              intro K hK
              go_wp2
              exact hK _ [] _ (Ext.refl u) (fun _ _ => rfl) (Own.nil _ _)
            · exact absurd (by decide) hnt
            · cases ho
              simp only [putAll_toArray, put_toArray, List.map_cons, List.map_nil, setL, List.set_cons_succ, List.set_cons_zero, Bd.d, List.getD_cons_succ, List.getD_cons_zero]
              intro K hK
              go_wp2
              exact hK _ [] _ (Ext.refl u) (fun _ _ => rfl) (Own.nil _ _)
            · exact absurd (by decide) hnt
            · cases ho
              simp only [putAll_toArray, put_toArray, List.map_cons, List.map_nil, setL, List.set_cons_succ, List.set_cons_zero, Bd.d, List.getD_cons_succ, List.getD_cons_zero]
              have d2 := (hd 2 (by decide +kernel)).1
              have d3 := (hd 3 (by decide +kernel)).1
              have d4 := (hd 4 (by decide +kernel)).1
              have d5 := (hd 5 (by decide +kernel)).1
              have d6 := (hd 6 (by decide +kernel)).1
              have d7 := (hd 7 (by decide +kernel)).1
              simp only [Bd.u, List.getD_cons_succ, List.getD_cons_zero, List.map_cons, List.map_nil] at d2 d3 d4 d5 d6 d7
              try simp only [d2, d3, d4, d5, d6, d7]
              clear d2 d3 d4 d5 d6 d7
              intro K hK
              go_wp2
              exact hK _ [] _ (Ext.refl u) (fun _ _ => rfl) (Own.nil _ _)
            · cases ho
              simp only [putAll_toArray, put_toArray, List.map_cons, List.map_nil, setL, List.set_cons_succ, List.set_cons_zero, Bd.d, List.getD_cons_succ, List.getD_cons_zero]
              have d2 := (hd 2 (by decide +kernel)).1
              have d3 := (hd 3 (by decide +kernel)).1
              have d4 := (hd 4 (by decide +kernel)).1
              have d5 := (hd 5 (by decide +kernel)).1
              have d6 := (hd 6 (by decide +kernel)).1
              have d7 := (hd 7 (by decide +kernel)).1
              have d8 := (hd 8 (by decide +kernel)).1
              simp only [Bd.u, List.getD_cons_succ, List.getD_cons_zero, List.map_cons, List.map_nil] at d2 d3 d4 d5 d6 d7 d8
              try simp only [d2, d3, d4, d5, d6, d7, d8]
              clear d2 d3 d4 d5 d6 d7 d8
              intro K hK
              go_wp2
              exact hK _ [] _ (Ext.refl u) (fun _ _ => rfl) (Own.nil _ _)
            · cases ho
              simp only [putAll_toArray, put_toArray, List.map_cons, List.map_nil, setL, List.set_cons_succ, List.set_cons_zero, Bd.d, List.getD_cons_succ, List.getD_cons_zero]
              have d2 := (hd 2 (by decide +kernel)).1
              have d3 := (hd 3 (by decide +kernel)).1
              have d4 := (hd 4 (by decide +kernel)).1
              have d5 := (hd 5 (by decide +kernel)).1
              have d6 := (hd 6 (by decide +kernel)).1
              have d7 := (hd 7 (by decide +kernel)).1
              have d8 := (hd 8 (by decide +kernel)).1
              have d9 := (hd 9 (by decide +kernel)).1
              simp only [Bd.u, List.getD_cons_succ, List.getD_cons_zero, List.map_cons, List.map_nil] at d2 d3 d4 d5 d6 d7 d8 d9
              try simp only [d2, d3, d4, d5, d6, d7, d8, d9]
              intro K hK
              go_wp2
              have b1 := Bk.new u [.int .i64 (M.nx sj), .int .i64 (M.nx (M.ns sj)), .bool (M.nx (M.ns (M.ns sj)) == 1)] 60
              exact hK _ [] _ ((Ext.refl u).alloc _) (fun _ h => ⟨_, rfl, hE.size, h.bk b1 (fun hm => by have := hF0 _ hm; have := hE.size; omega)⟩) (Own.nil _ _)
            · exact absurd (by decide) hnt
            · cases ho
              simp only [putAll_toArray, put_toArray, List.map_cons, List.map_nil, setL, List.set_cons_succ, List.set_cons_zero, Bd.d, List.getD_cons_succ, List.getD_cons_zero]
              have d0 := (hd 0 (by decide +kernel)).1
              have d1 := (hd 1 (by decide +kernel)).1
              have d2 := (hd 2 (by decide +kernel)).1
              have d3 := (hd 3 (by decide +kernel)).1
              have d4 := (hd 4 (by decide +kernel)).1
              have d5 := (hd 5 (by decide +kernel)).1
              have d6 := (hd 6 (by decide +kernel)).1
              have d7 := (hd 7 (by decide +kernel)).1
              have d8 := (hd 8 (by decide +kernel)).1
              have d9 := (hd 9 (by decide +kernel)).1
              have d10 := (hd 10 (by decide +kernel)).1
              have d11 := (hd 11 (by decide +kernel)).1
              simp only [Bd.u, List.getD_cons_succ, List.getD_cons_zero, List.map_cons, List.map_nil] at d0 d1 d2 d3 d4 d5 d6 d7 d8 d9 d10 d11
              clear d10 d11
              try simp only [d0, d1, d2, d3, d4, d5, d6, d7, d8, d9]
              clear d0 d1 d2 d3 d4 d5 d6 d7 d8 d9
              intro K hK
              go_wp2
              exact hK _ [] _ (Ext.refl u) (fun _ _ => rfl) (Own.nil _ _)
          · intro c i hc o ho U u F hE hd hap ht
            rcases c with _ | _ | _ | _ | c
            · cases hc
              cases ho
              simp only [putAll_toArray, put_toArray, List.map_cons, List.map_nil, setL, List.set_cons_succ, List.set_cons_zero, Bd.d, List.getD_cons_succ, List.getD_cons_zero]
              have d2 := (hd 2 (by decide +kernel)).1
              simp only [Bd.u, List.getD_cons_succ, List.getD_cons_zero, List.map_cons, List.map_nil] at d2
              try simp only [d2]
              replace ht : Rn w u R sj.1 sj.2 ∧ Oo 60 W4.heap.size u (.slice wb wm wd) wj := ht
              have HT := Lib.hid ht
              clear ht
              intro K hK
              go_wp2_with (go_at_call 39; refine (impl_next _ _ _ _ _ HT.out.1).mono ?_; rintro e w1 ⟨r, rfl, rfl, hrr, hm, hn⟩)
              exact hK _ [] _ (Mw.wide (Mw.ofMo hm) (fun k hk => by rw [List.mem_singleton] at hk; subst hk; exact hFR)) (fun w3 h => ⟨hn.ext h, (HT.out.2.mo hm (by simpa using hRL)).ext h⟩) (fun _ _ => rfl) (Own.nil _ _)
            · cases hc
              cases ho
              simp only [putAll_toArray, put_toArray, List.map_cons, List.map_nil, setL, List.set_cons_succ, List.set_cons_zero, Bd.d, List.getD_cons_succ, List.getD_cons_zero]
              have d2 := (hd 2 (by decide +kernel)).1
              have d3 := (hd 3 (by decide +kernel)).1
              have d4 := (hd 4 (by decide +kernel)).1
              simp only [Bd.u, List.getD_cons_succ, List.getD_cons_zero, List.map_cons, List.map_nil] at d2 d3 d4
              try simp only [d2, d3, d4]
              replace ht : Rn w u R (M.ns sj).1 (M.ns sj).2 ∧ Oo 60 W4.heap.size u (.slice wb wm wd) wj := ht
              have HT := Lib.hid ht
              clear ht
              intro K hK
              go_wp2_with (go_at_call 39; refine (impl_next _ _ _ _ _ HT.out.1).mono ?_; rintro e w1 ⟨r, rfl, rfl, hrr, hm, hn⟩)
              exact hK _ [] _ (Mw.wide (Mw.ofMo hm) (fun k hk => by rw [List.mem_singleton] at hk; subst hk; exact hFR)) (fun w3 h => ⟨hn.ext h, (HT.out.2.mo hm (by simpa using hRL)).ext h⟩) (fun _ _ => rfl) (Own.nil _ _)
            · cases hc
              cases ho
              simp only [putAll_toArray, put_toArray, List.map_cons, List.map_nil, setL, List.set_cons_succ, List.set_cons_zero, Bd.d, List.getD_cons_succ, List.getD_cons_zero]
              have d2 := (hd 2 (by decide +kernel)).1
              have d3 := (hd 3 (by decide +kernel)).1
              have d4 := (hd 4 (by decide +kernel)).1
              have d5 := (hd 5 (by decide +kernel)).1
              have d6 := (hd 6 (by decide +kernel)).1
              simp only [Bd.u, List.getD_cons_succ, List.getD_cons_zero, List.map_cons, List.map_nil] at d2 d3 d4 d5 d6
              try simp only [d2, d3, d4, d5, d6]
              replace ht : Rn w u R (M.ns (M.ns sj)).1 (M.ns (M.ns sj)).2 ∧ Oo 60 W4.heap.size u (.slice wb wm wd) wj := ht
              have HT := Lib.hid ht
              clear ht
              intro K hK
              go_wp2_with (go_at_call 39; refine (impl_next _ _ _ _ _ HT.out.1).mono ?_; rintro e w1 ⟨r, rfl, rfl, hrr, hm, hn⟩)
              exact hK _ [] _ (Mw.wide (Mw.ofMo hm) (fun k hk => by rw [List.mem_singleton] at hk; subst hk; exact hFR)) (fun w3 h => ⟨hn.ext h, (HT.out.2.mo hm (by simpa using hRL)).ext h⟩) (fun _ _ => rfl) (Own.nil _ _)
            · cases hc
              cases ho
              simp only [putAll_toArray, put_toArray, List.map_cons, List.map_nil, setL, List.set_cons_succ, List.set_cons_zero, Bd.d, List.getD_cons_succ, List.getD_cons_zero]
              have d0 := (hd 0 (by decide +kernel)).1
              have d1 := (hd 1 (by decide +kernel)).1
              have d2 := (hd 2 (by decide +kernel)).1
              have d3 := (hd 3 (by decide +kernel)).1
              have d4 := (hd 4 (by decide +kernel)).1
              have d5 := (hd 5 (by decide +kernel)).1
              have d6 := (hd 6 (by decide +kernel)).1
              have d7 := (hd 7 (by decide +kernel)).1
              have d8 := (hd 8 (by decide +kernel)).1
              have d9 := (hd 9 (by decide +kernel)).1
              have d10 := (hd 10 (by decide +kernel)).1
              have o10 := (hd 10 (by decide +kernel)).2
              simp only [Bd.u, List.getD_cons_succ, List.getD_cons_zero, List.map_cons, List.map_nil] at d0 d1 d2 d3 d4 d5 d6 d7 d8 d9 d10
              try simp only [d0, d1, d2, d3, d4, d5, d6, d7, d8, d9]
              replace ht : Rn w u R (M.ns (M.ns (M.ns sj))).1 (M.ns (M.ns (M.ns sj))).2 ∧ Oo 60 W4.heap.size u (.slice wb wm wd) wj := ht
              have HT := Lib.hid ht
              clear ht
              obtain ⟨lb, g0, g1, g2⟩ := d10
              simp only [g0]
              intro K hK
              refine wpl_appO (u := u) (α := Window) rfl _ _ 56 rfl 60 Try.underlying56 elWindow (v := .slice wb wm wd) (ys := [(M.iW1 sj).1]) rfl HT.out.2 (Ext.refl _) (by have := hE.size; omega) rfl rfl (Row.one ⟨rfl, rr0, rr1, rfl⟩ (fun j y hj => by rw [Nat.zero_add]; exact g2.cell hj)) (by simp) (Own.nil _ _) hlen1 ?_
              intro v2 w2 hO2 hg2
              go_wp2
              have hmw : Mw F0 u w2 := Mw.ofGrown hg2 hFrow
              have hrw : Mw (Option.toList (Value.ownBlock (.slice wb wm wd))) u w2 := Mw.ofGrown hg2 (fun k hk => by rw [Option.mem_toList]; exact hk)
              exact hK _ [] _ hmw (fun w3 h => ⟨(HT.out.1.mw hrw (fun hm => by have := hrowL _ (Option.mem_toList.1 hm); omega) (fun k hk => by have := hrowL _ (Option.mem_toList.1 hk); have := hB0.out; omega)).ext h, hO2.ext h⟩) (fun _ _ => trivial) (Own.nil _ _)
            · cases hc
          · intro o ho U u F hE hφ hap ht
            cases ho
            simp only [putAll_toArray, put_toArray, List.map_cons, List.map_nil, setL, List.set_cons_succ, List.set_cons_zero, Bd.d, List.getD_cons_succ, List.getD_cons_zero]
            have d0 := (hφ 0 (by omega)).1
            have d1 := (hφ 1 (by omega)).1
            have d2 := (hφ 2 (by omega)).1
            have d3 := (hφ 3 (by omega)).1
            have d4 := (hφ 4 (by omega)).1
            have d5 := (hφ 5 (by omega)).1
            have d6 := (hφ 6 (by omega)).1
            have d7 := (hφ 7 (by omega)).1
            have d8 := (hφ 8 (by omega)).1
            have d9 := (hφ 9 (by omega)).1
            have d10 := (hφ 10 (by omega)).1
            have o10 := (hφ 10 (by omega)).2
            have d11 := (hφ 11 (by omega)).1
            have o11 := (hφ 11 (by omega)).2
            have d12 := (hφ 12 (by omega)).1
            simp only [Bd.u, List.getD_cons_succ, List.getD_cons_zero, List.map_cons, List.map_nil] at d0 d1 d2 d3 d4 d5 d6 d7 d8 d9 d10 d11 d12
            try simp only [d0, d1, d2, d3, d4, d5, d6, d7, d8, d9, d12]
            replace ht : Rn w u R (M.iW1 sj).2.1 (M.iW1 sj).2.2 ∧ Oo 60 W4.heap.size u (U 32) (wj ++ [(M.iW1 sj).1]) := ht
            clear d0 d1 d2 d3 d4 d5 d6 d7 d8 d9 d10 d11 d12 o10 o11 hap hφ
            have HT := Lib.hid ht
            clear ht
            obtain ⟨p9, n9, q9, e9⟩ := HT.out.2.sh
            simp only [e9] at HT ⊢
            have BU := hE.bk KPi.out hPF
            have c0 := BU.cell (j := 0) rfl
            have cf := BU.fz
            have hlu := BU.lt
            have HBU := Lib.hid BU
            have HE := Lib.hid hE
            clear BU hE
            go_wp2
            go_roundw
            case rel =>
              refine ⟨j + 1, _, _, _, by omega, by go_num, (MWi.out.trF HE.out (fun x hx => ?_)).set (by simp) _, by have := HBU.out.set 0 (.slice p9 n9 q9); simpa using this, by rw [HSW.out]; exact HT.out.2.set (by show P < W4.heap.size; omega) _, by rw [HSW.out]; exact HT.out.1.set (by show R ≠ P; omega) (by show _ ≤ P; have := hB0.out; omega) _⟩
              rcases hFsub x hx with h | h
              · exact .inl (by simp [h])
              · exact .inr h
            case measure => simp [intOf]; omega
        · obtain rfl : j = nw := by omega
          have HPK : Hid ((M.iP1 sk) = (⟨(M.iter M.iW1 j s2).1, M.nx sk⟩, (M.iter M.iW1 j s2).2)) := Lib.hid (by
            unfold M.iP1; rw [← HNW.out, ← hs2.out, Int.toNat_natCast])
          generalize (M.iter M.iW1 j s2).2 = sj at *
          generalize (M.iter M.iW1 j s2).1 = wj at *
          obtain ⟨FW, SW, OW⟩ := HOi.out.os
          have rP := hrr2
          have HSW := Lib.hid SW
          have HOW := Lib.hid (OW.mono (by omega : P ≤ W4.heap.size))
          have KSi := Lib.hid (MWi.out.bk KS4.out (by simp; omega))
          have HOP := Lib.hid (HO4.out.of (fun k h1 h2 => MWi.out.2.2 k (by omega) (by simp; omega)))
          have MWR := Lib.hid (MW4.out.trF MWi.out (fun x hx => by
            rcases List.mem_cons.1 hx with h | h
            · exact .inl (by simp [h])
            · rw [List.mem_singleton] at h; subst h; exact .inr (by omega)))
          have s0 := KSi.out.cell (j := 0) rfl
          have s0f := KSi.out.fz
          have hlS := KSi.out.lt
          clear SW OW HOi MWi
          go_wp2_with (at_builtin; refine wpl_appB (α := Part) (L := W1.heap.size) (M := P) rfl _ _ 23 rfl 58 Try.underlying23 elPart (v := .slice ao no co) (ys := [⟨wj, M.nx sk⟩]) rfl (HOP.out.of (fun k _ h => ((Ext.refl wr).alloc _).block k (by omega))) (by omega) (by simp; omega) rfl rfl (Row.lit1 (cs := [_, _]) ⟨_, rfl, HSW.out, rP⟩) (by simp) (HOW.out.ext ((Ext.refl _).alloc _)) (by simp; omega) ?_; intro v5 w5 hO5 hg5; have HG5 := Lib.hid hg5; have HO5 := Lib.hid hO5; have hrow5 := HOP.out.own; have KS5 := Lib.hid (hg5.bk (KSi.out.ext ((Ext.refl _).alloc _)) (fun hm => by have := hrow5 _ (Option.mem_toList.1 hm); omega)); have g0 := KS5.out.cell (j := 0) rfl; have gf := KS5.out.fz; have gl := KS5.out.lt; obtain ⟨p5, k5, q5, rfl⟩ := hO5.sh; clear hO5 hg5)
          go_roundw
          case rel =>
            refine ⟨k + 1, _, _, _, by omega, by go_num, ((MWR.out.tr (Mw.ofExt ((Ext.refl _).alloc _))).trF HG5.out (fun x hx => .inr (hrow5 x (Option.mem_toList.1 hx)).1)).set (by simp) _, by have := KS5.out.set 0 (.slice p5 k5 q5); simpa using this, ?_, ?_⟩
            · rw [HST.out, HPK.out]; exact HO5.out.set (by show S < W1.heap.size; omega) _
            · rw [HST.out, HPK.out]
              exact ((RNi.out.ext ((Ext.refl _).alloc _)).mw HG5.out (fun hm => by have := hrow5 _ (Option.mem_toList.1 hm); omega) (fun x hx => by have := hrow5 x (Option.mem_toList.1 hx); have := hB0.out; omega)).set (by show R ≠ S; omega) (by show _ ≤ S; have := hB0.out; omega) _
          case measure => simp [intOf]; omega
    · obtain rfl : k = n5 := by omega
      have HPS : Hid (M.iPs (xs, false) = M.iter M.iP1 k s1) := Lib.hid (by unfold M.iPs; rw [← HN5.out, ← hs1.out, Int.toNat_natCast])
      generalize M.iter M.iP1 k s1 = pp at *
      obtain ⟨wp, rfl⟩ : ∃ wp : World, wp = wr := ⟨_, rfl⟩
      go_wp2_with (go_at_call 38; refine (impl_many _ _ _ _ _ _ RN.out).mono ?_; rintro e W5 ⟨r, rfl, hr0, hrr, hm, hn⟩; have HQ := Lib.hid hr0; have HM5 := Lib.hid hm; have RN5 := Lib.hid hn; clear hm hn hr0)
      have hr := HQ.out
      clear HQ
      have hb8 := M.many_bd pp.2.1 (m := 8) (by omega)
      have HN8 : Hid (r = M.mx 8 pp.2) := Lib.hid hr
      rw [← hr] at hb8
      obtain ⟨n8, hn8⟩ : ∃ n : Nat, r = n := ⟨r.toNat, by omega⟩
      subst hn8
      have h8n : n8 ≤ 8 := by omega
      clear hb8 hrr hr
      have hsz5 := Nat.le_of_eq HM5.out.lt.symm
      have KS5 := Lib.hid (HM5.out.bk KS.out (by simp; omega))
      have MW5 := Lib.hid (MW.out.tr HM5.out.mw2)
      have hlW5 : S < W5.heap.size := KS5.out.lt
      have hOP := Lib.hid (HO.out.os.osb.of (w' := W5) (fun k h1 h2 => HM5.out.2.2.1 k (by simp; omega)))
      obtain ⟨s3, hs3⟩ : ∃ s : M.St, s = M.ms 8 pp.2 := ⟨_, rfl⟩
      have RS3 : Hid (Rn w W5 R s3.1 s3.2) := Lib.hid (by rw [hs3]; exact RN5.out)
      clear RN5 RN HM5 KS MW HO
      replace hs3 := Lib.hid hs3
      go_loopw [44] (fun i wr => ∃ (k : Nat) (a1 : Option Addr) (n1 c1 : Nat), k ≤ n8 ∧ i = .int .i64 k ∧ Mw [R, S] W5 wr ∧ Bk wr S [.slice ao no co, .slice a1 n1 c1, .slice none 0 0] 27 ∧ Oo 63 W5.heap.size wr (.slice a1 n1 c1) (M.iter M.iC1 k s3).1 ∧ Rn w wr R (M.iter M.iC1 k s3).2.1 (M.iter M.iC1 k s3).2.2) (fun i _ => n8 - (intOf i).toNat)
      case atStart => exact ⟨0, _, _, _, Nat.zero_le _, rfl, Mw.refl _ _, KS5.out, Oo.nil _ _ _, RS3.out⟩
      case round =>
        obtain ⟨k8, a1, n1, c1, hk8, rfl, hmw, hks, hoo, hrn⟩ := hrel
        have MWi := Lib.hid hmw
        have KSi := Lib.hid hks
        have HOi := Lib.hid hoo
        have RNi := Lib.hid hrn
        have hzi := hmw.size
        have hcell := hks.cell (j := 1) rfl
        have hcl := M.iter_len M.iC1 k8 s3
        clear hmw hks hoo hrn
        by_cases hkt : k8 < n8
        · have HSC : Hid (M.iter M.iC1 (k8 + 1) s3 = ((M.iter M.iC1 k8 s3).1 ++ [(M.iC1 (M.iter M.iC1 k8 s3).2).1], (M.iC1 (M.iter M.iC1 k8 s3).2).2)) := Lib.hid rfl
          generalize (M.iter M.iC1 k8 s3).2 = sj at *
          generalize (M.iter M.iC1 k8 s3).1 = wj at *
          have hrs := RNi.out.rngs
          have rr0 := hrs.nx
          have rr1 := hrs.ns.nx
          have rr2 := hrs.ns.ns.nx
          have rr3 := hrs.ns.ns.ns.nx
          have hRL : R < W5.heap.size := by omega
          have hlen1 : wj.length + 1 ≤ 4294967296 := by omega
          have hPlt : S < wr.heap.size := by omega
          clear hrs
          go_upto_region 14 with (fail)
          have hF0 : ∀ k ∈ R :: (Value.slice a1 n1 c1).ownBlock.toList, k < wr.heap.size := fun k hk => by
            rcases List.mem_cons.1 hk with rfl | hk
            · exact RNi.out.lt
            · exact HOi.out.lt k (Option.mem_toList.1 hk)
          have hrowL : ∀ k, (Value.slice a1 n1 c1).ownBlock = some k → W5.heap.size ≤ k := HOi.out.own
          have hPF : S ∉ R :: (Value.slice a1 n1 c1).ownBlock.toList := fun hm => by
            rcases List.mem_cons.1 hm with e | hm
            · omega
            · have := hrowL _ (Option.mem_toList.1 hm); omega
          have hFR : R ∈ R :: (Value.slice a1 n1 c1).ownBlock.toList := List.mem_cons_self ..
          have hFrow : ∀ k, (Value.slice a1 n1 c1).ownBlock = some k → k ∈ R :: (Value.slice a1 n1 c1).ownBlock.toList := fun k hk => List.mem_cons_of_mem _ (Option.mem_toList.2 hk)
          have hFsub : ∀ k ∈ R :: (Value.slice a1 n1 c1).ownBlock.toList, k = R ∨ W5.heap.size ≤ k := fun k hk => (List.mem_cons.1 hk).imp (fun h => h) (fun h => hrowL k (Option.mem_toList.1 h))
          generalize R :: (Value.slice a1 n1 c1).ownBlock.toList = F0 at *
          refine wp_region_thr rfl 14 [(46, [46]), (47, [47]), (48, [48]), (49, [49]), (50, [50]), (51, [51]), (52, [52]), (53, [53]), (54, [54]), (55, [55]), (56, [56]), (57, [57]), (58, [58]), (59, [59])]
            (fun i vs u F => match i, vs with
              | 0, [y] => y = .pointer (some ⟨S, 1, none⟩)
              | 1, [y] => y = .slice a1 n1 c1
              | 2, [y] => y = .pointer (some ⟨R, 0, none⟩)
              | 3, [y] => y = .int .i64 (M.nx sj)
              | 4, [y] => y = .pointer (some ⟨R, 0, none⟩)
              | 5, [y] => y = .int .i64 (M.nx (M.ns sj))
              | 6, [y] => y = .pointer (some ⟨R, 0, none⟩)
              | 7, [y] => y = .int .i64 (M.nx (M.ns (M.ns sj)))
              | 8, [y] => y = .pointer (some ⟨R, 0, none⟩)
              | 9, [y] => y = .int .i64 (M.nx (M.ns (M.ns (M.ns sj))))
              | 10, [y] => y = .agg #[.int .i64 (M.nx sj), .int .i64 (M.nx (M.ns sj)), .int .i64 (M.nx (M.ns (M.ns sj))), .int .i64 (M.nx (M.ns (M.ns (M.ns sj))))]
              | 11, [y] => ∃ lb, y = .slice (some ⟨lb, 0, none⟩) 1 1 ∧ wr.heap.size ≤ lb ∧ Bk u lb [.int .i64 (M.nx sj), .int .i64 (M.nx (M.ns sj)), .int .i64 (M.nx (M.ns (M.ns sj))), .int .i64 (M.nx (M.ns (M.ns (M.ns sj))))] 63
              | 12, [_] => True
              | 13, [y] => y = .pointer (some ⟨S, 1, none⟩)
              | _, _ => False) F0 hF0 [3, 5, 7, 9, 12] (fun c vs u => match c, vs with
              | 0, _ => Rn w u R sj.1 sj.2 ∧ Oo 63 W5.heap.size u (.slice a1 n1 c1) wj
              | 1, _ => Rn w u R (M.ns sj).1 (M.ns sj).2 ∧ Oo 63 W5.heap.size u (.slice a1 n1 c1) wj
              | 2, _ => Rn w u R (M.ns (M.ns sj)).1 (M.ns (M.ns sj)).2 ∧ Oo 63 W5.heap.size u (.slice a1 n1 c1) wj
              | 3, _ => Rn w u R (M.ns (M.ns (M.ns sj))).1 (M.ns (M.ns (M.ns sj))).2 ∧ Oo 63 W5.heap.size u (.slice a1 n1 c1) wj
              | 4, _ => Rn w u R (M.ns (M.ns (M.ns (M.ns sj)))).1 (M.ns (M.ns (M.ns (M.ns sj)))).2 ∧ Oo 63 W5.heap.size u (.slice a1 n1 c1) wj
              | 5, [_, _, _, _, y] => Rn w u R (M.ns (M.ns (M.ns (M.ns sj)))).1 (M.ns (M.ns (M.ns (M.ns sj)))).2 ∧ Oo 63 W5.heap.size u y (wj ++ [(M.iC1 sj).1])
              | _, _ => False) (by decide +kernel) (by decide +kernel) (fun w2 h => ⟨RNi.out.ext h, HOi.out.ext h⟩) ?_ ?_ ?_
          · intro i hi hnt o ho U u F hE hd hap
            have e0 := (hE.cell (o := 1) hPF (by omega)).trans hcell
            rcases (by omega : i = 0 ∨ i = 1 ∨ i = 2 ∨ i = 3 ∨ i = 4 ∨ i = 5 ∨ i = 6 ∨ i = 7 ∨ i = 8 ∨ i = 9 ∨ i = 10 ∨ i = 11 ∨ i = 12 ∨ i = 13) with rfl | rfl | rfl | rfl | rfl | rfl | rfl | rfl | rfl | rfl | rfl | rfl | rfl | rfl
            · cases ho
              simp only [putAll_toArray, put_toArray, List.map_cons, List.map_nil, setL, List.set_cons_succ, List.set_cons_zero, Bd.d, List.getD_cons_succ, List.getD_cons_zero]
              intro K hK
              go_wp2
              exact hK _ [] _ (Ext.refl u) (fun _ _ => rfl) (Own.nil _ _)
            · cases ho
              simp only [putAll_toArray, put_toArray, List.map_cons, List.map_nil, setL, List.set_cons_succ, List.set_cons_zero, Bd.d, List.getD_cons_succ, List.getD_cons_zero]
              have d0 := (hd 0 (by decide +kernel)).1
              simp only [Bd.u, List.getD_cons_succ, List.getD_cons_zero, List.map_cons, List.map_nil] at d0
              try simp only [d0]
              clear d0
              intro K hK
              go_wp2
              exact hK _ [] _ (Ext.refl u) (fun _ _ => rfl) (Own.nil _ _)
            · cases ho
              simp only [putAll_toArray, put_toArray, List.map_cons, List.map_nil, setL, List.set_cons_succ, List.set_cons_zero, Bd.d, List.getD_cons_succ, List.getD_cons_zero]
              intro K hK
              go_wp2
              exact hK _ [] _ (Ext.refl u) (fun _ _ => rfl) (Own.nil _ _)
            · exact absurd (by decide) hnt
            · cases ho
              simp only [putAll_toArray, put_toArray, List.map_cons, List.map_nil, setL, List.set_cons_succ, List.set_cons_zero, Bd.d, List.getD_cons_succ, List.getD_cons_zero]
              intro K hK
              go_wp2
              exact hK _ [] _ (Ext.refl u) (fun _ _ => rfl) (Own.nil _ _)
            · exact absurd (by decide) hnt
            · cases ho
              simp only [putAll_toArray, put_toArray, List.map_cons, List.map_nil, setL, List.set_cons_succ, List.set_cons_zero, Bd.d, List.getD_cons_succ, List.getD_cons_zero]
              intro K hK
              go_wp2
              exact hK _ [] _ (Ext.refl u) (fun _ _ => rfl) (Own.nil _ _)
            · exact absurd (by decide) hnt
            · cases ho
              simp only [putAll_toArray, put_toArray, List.map_cons, List.map_nil, setL, List.set_cons_succ, List.set_cons_zero, Bd.d, List.getD_cons_succ, List.getD_cons_zero]
              intro K hK
              go_wp2
              exact hK _ [] _ (Ext.refl u) (fun _ _ => rfl) (Own.nil _ _)
            · exact absurd (by decide) hnt
            · cases ho
              simp only [putAll_toArray, put_toArray, List.map_cons, List.map_nil, setL, List.set_cons_succ, List.set_cons_zero, Bd.d, List.getD_cons_succ, List.getD_cons_zero]
              have d2 := (hd 2 (by decide +kernel)).1
              have d3 := (hd 3 (by decide +kernel)).1
              have d4 := (hd 4 (by decide +kernel)).1
              have d5 := (hd 5 (by decide +kernel)).1
              have d6 := (hd 6 (by decide +kernel)).1
              have d7 := (hd 7 (by decide +kernel)).1
              have d8 := (hd 8 (by decide +kernel)).1
              have d9 := (hd 9 (by decide +kernel)).1
              simp only [Bd.u, List.getD_cons_succ, List.getD_cons_zero, List.map_cons, List.map_nil] at d2 d3 d4 d5 d6 d7 d8 d9
              try simp only [d2, d3, d4, d5, d6, d7, d8, d9]
              clear d2 d3 d4 d5 d6 d7 d8 d9
              intro K hK
              go_wp2
              exact hK _ [] _ (Ext.refl u) (fun _ _ => rfl) (Own.nil _ _)
            · cases ho
              simp only [putAll_toArray, put_toArray, List.map_cons, List.map_nil, setL, List.set_cons_succ, List.set_cons_zero, Bd.d, List.getD_cons_succ, List.getD_cons_zero]
              have d2 := (hd 2 (by decide +kernel)).1
              have d3 := (hd 3 (by decide +kernel)).1
              have d4 := (hd 4 (by decide +kernel)).1
              have d5 := (hd 5 (by decide +kernel)).1
              have d6 := (hd 6 (by decide +kernel)).1
              have d7 := (hd 7 (by decide +kernel)).1
              have d8 := (hd 8 (by decide +kernel)).1
              have d9 := (hd 9 (by decide +kernel)).1
              have d10 := (hd 10 (by decide +kernel)).1
              simp only [Bd.u, List.getD_cons_succ, List.getD_cons_zero, List.map_cons, List.map_nil] at d2 d3 d4 d5 d6 d7 d8 d9 d10
              try simp only [d2, d3, d4, d5, d6, d7, d8, d9, d10]
              intro K hK
              go_wp2
              have b1 := Bk.new u [.int .i64 (M.nx sj), .int .i64 (M.nx (M.ns sj)), .int .i64 (M.nx (M.ns (M.ns sj))), .int .i64 (M.nx (M.ns (M.ns (M.ns sj))))] 63
              exact hK _ [] _ ((Ext.refl u).alloc _) (fun _ h => ⟨_, rfl, hE.size, h.bk b1 (fun hm => by have := hF0 _ hm; have := hE.size; omega)⟩) (Own.nil _ _)
            · exact absurd (by decide) hnt
            · cases ho
              simp only [putAll_toArray, put_toArray, List.map_cons, List.map_nil, setL, List.set_cons_succ, List.set_cons_zero, Bd.d, List.getD_cons_succ, List.getD_cons_zero]
              have d0 := (hd 0 (by decide +kernel)).1
              have d1 := (hd 1 (by decide +kernel)).1
              have d2 := (hd 2 (by decide +kernel)).1
              have d3 := (hd 3 (by decide +kernel)).1
              have d4 := (hd 4 (by decide +kernel)).1
              have d5 := (hd 5 (by decide +kernel)).1
              have d6 := (hd 6 (by decide +kernel)).1
              have d7 := (hd 7 (by decide +kernel)).1
              have d8 := (hd 8 (by decide +kernel)).1
              have d9 := (hd 9 (by decide +kernel)).1
              have d10 := (hd 10 (by decide +kernel)).1
              have d11 := (hd 11 (by decide +kernel)).1
              have d12 := (hd 12 (by decide +kernel)).1
              simp only [Bd.u, List.getD_cons_succ, List.getD_cons_zero, List.map_cons, List.map_nil] at d0 d1 d2 d3 d4 d5 d6 d7 d8 d9 d10 d11 d12
              clear d11 d12
              try simp only [d0, d1, d2, d3, d4, d5, d6, d7, d8, d9, d10]
              clear d0 d1 d2 d3 d4 d5 d6 d7 d8 d9 d10
              intro K hK
              go_wp2
              exact hK _ [] _ (Ext.refl u) (fun _ _ => rfl) (Own.nil _ _)
          · intro c i hc o ho U u F hE hd hap ht
            rcases c with _ | _ | _ | _ | _ | c
            · cases hc
              cases ho
              simp only [putAll_toArray, put_toArray, List.map_cons, List.map_nil, setL, List.set_cons_succ, List.set_cons_zero, Bd.d, List.getD_cons_succ, List.getD_cons_zero]
              have d2 := (hd 2 (by decide +kernel)).1
              simp only [Bd.u, List.getD_cons_succ, List.getD_cons_zero, List.map_cons, List.map_nil] at d2
              try simp only [d2]
              replace ht : Rn w u R sj.1 sj.2 ∧ Oo 63 W5.heap.size u (.slice a1 n1 c1) wj := ht
              have HT := Lib.hid ht
              clear ht
              intro K hK
              go_wp2_with (go_at_call 39; refine (impl_next _ _ _ _ _ HT.out.1).mono ?_; rintro e w1 ⟨r, rfl, rfl, hrr, hm, hn⟩)
              exact hK _ [] _ (Mw.wide (Mw.ofMo hm) (fun k hk => by rw [List.mem_singleton] at hk; subst hk; exact hFR)) (fun w3 h => ⟨hn.ext h, (HT.out.2.mo hm (by simpa using hRL)).ext h⟩) (fun _ _ => rfl) (Own.nil _ _)
            · cases hc
              cases ho
              simp only [putAll_toArray, put_toArray, List.map_cons, List.map_nil, setL, List.set_cons_succ, List.set_cons_zero, Bd.d, List.getD_cons_succ, List.getD_cons_zero]
              have d2 := (hd 2 (by decide +kernel)).1
              have d3 := (hd 3 (by decide +kernel)).1
              have d4 := (hd 4 (by decide +kernel)).1
              simp only [Bd.u, List.getD_cons_succ, List.getD_cons_zero, List.map_cons, List.map_nil] at d2 d3 d4
              try simp only [d2, d3, d4]
              replace ht : Rn w u R (M.ns sj).1 (M.ns sj).2 ∧ Oo 63 W5.heap.size u (.slice a1 n1 c1) wj := ht
              have HT := Lib.hid ht
              clear ht
              intro K hK
              go_wp2_with (go_at_call 39; refine (impl_next _ _ _ _ _ HT.out.1).mono ?_; rintro e w1 ⟨r, rfl, rfl, hrr, hm, hn⟩)
              exact hK _ [] _ (Mw.wide (Mw.ofMo hm) (fun k hk => by rw [List.mem_singleton] at hk; subst hk; exact hFR)) (fun w3 h => ⟨hn.ext h, (HT.out.2.mo hm (by simpa using hRL)).ext h⟩) (fun _ _ => rfl) (Own.nil _ _)
            · cases hc
              cases ho
              simp only [putAll_toArray, put_toArray, List.map_cons, List.map_nil, setL, List.set_cons_succ, List.set_cons_zero, Bd.d, List.getD_cons_succ, List.getD_cons_zero]
              have d2 := (hd 2 (by decide +kernel)).1
              have d3 := (hd 3 (by decide +kernel)).1
              have d4 := (hd 4 (by decide +kernel)).1
              have d5 := (hd 5 (by decide +kernel)).1
              have d6 := (hd 6 (by decide +kernel)).1
              simp only [Bd.u, List.getD_cons_succ, List.getD_cons_zero, List.map_cons, List.map_nil] at d2 d3 d4 d5 d6
              try simp only [d2, d3, d4, d5, d6]
              replace ht : Rn w u R (M.ns (M.ns sj)).1 (M.ns (M.ns sj)).2 ∧ Oo 63 W5.heap.size u (.slice a1 n1 c1) wj := ht
              have HT := Lib.hid ht
              clear ht
              intro K hK
              go_wp2_with (go_at_call 39; refine (impl_next _ _ _ _ _ HT.out.1).mono ?_; rintro e w1 ⟨r, rfl, rfl, hrr, hm, hn⟩)
              exact hK _ [] _ (Mw.wide (Mw.ofMo hm) (fun k hk => by rw [List.mem_singleton] at hk; subst hk; exact hFR)) (fun w3 h => ⟨hn.ext h, (HT.out.2.mo hm (by simpa using hRL)).ext h⟩) (fun _ _ => rfl) (Own.nil _ _)
            · cases hc
              cases ho
              simp only [putAll_toArray, put_toArray, List.map_cons, List.map_nil, setL, List.set_cons_succ, List.set_cons_zero, Bd.d, List.getD_cons_succ, List.getD_cons_zero]
              have d2 := (hd 2 (by decide +kernel)).1
              have d3 := (hd 3 (by decide +kernel)).1
              have d4 := (hd 4 (by decide +kernel)).1
              have d5 := (hd 5 (by decide +kernel)).1
              have d6 := (hd 6 (by decide +kernel)).1
              have d7 := (hd 7 (by decide +kernel)).1
              have d8 := (hd 8 (by decide +kernel)).1
              simp only [Bd.u, List.getD_cons_succ, List.getD_cons_zero, List.map_cons, List.map_nil] at d2 d3 d4 d5 d6 d7 d8
              try simp only [d2, d3, d4, d5, d6, d7, d8]
              replace ht : Rn w u R (M.ns (M.ns (M.ns sj))).1 (M.ns (M.ns (M.ns sj))).2 ∧ Oo 63 W5.heap.size u (.slice a1 n1 c1) wj := ht
              have HT := Lib.hid ht
              clear ht
              intro K hK
              go_wp2_with (go_at_call 39; refine (impl_next _ _ _ _ _ HT.out.1).mono ?_; rintro e w1 ⟨r, rfl, rfl, hrr, hm, hn⟩)
              exact hK _ [] _ (Mw.wide (Mw.ofMo hm) (fun k hk => by rw [List.mem_singleton] at hk; subst hk; exact hFR)) (fun w3 h => ⟨hn.ext h, (HT.out.2.mo hm (by simpa using hRL)).ext h⟩) (fun _ _ => rfl) (Own.nil _ _)
            · cases hc
              cases ho
              simp only [putAll_toArray, put_toArray, List.map_cons, List.map_nil, setL, List.set_cons_succ, List.set_cons_zero, Bd.d, List.getD_cons_succ, List.getD_cons_zero]
              have d0 := (hd 0 (by decide +kernel)).1
              have d1 := (hd 1 (by decide +kernel)).1
              have d2 := (hd 2 (by decide +kernel)).1
              have d3 := (hd 3 (by decide +kernel)).1
              have d4 := (hd 4 (by decide +kernel)).1
              have d5 := (hd 5 (by decide +kernel)).1
              have d6 := (hd 6 (by decide +kernel)).1
              have d7 := (hd 7 (by decide +kernel)).1
              have d8 := (hd 8 (by decide +kernel)).1
              have d9 := (hd 9 (by decide +kernel)).1
              have d10 := (hd 10 (by decide +kernel)).1
              have d11 := (hd 11 (by decide +kernel)).1
              have o11 := (hd 11 (by decide +kernel)).2
              simp only [Bd.u, List.getD_cons_succ, List.getD_cons_zero, List.map_cons, List.map_nil] at d0 d1 d2 d3 d4 d5 d6 d7 d8 d9 d10 d11
              try simp only [d0, d1, d2, d3, d4, d5, d6, d7, d8, d9, d10]
              replace ht : Rn w u R (M.ns (M.ns (M.ns (M.ns sj)))).1 (M.ns (M.ns (M.ns (M.ns sj)))).2 ∧ Oo 63 W5.heap.size u (.slice a1 n1 c1) wj := ht
              have HT := Lib.hid ht
              clear ht
              obtain ⟨lb, g0, g1, g2⟩ := d11
              simp only [g0]
              intro K hK
              refine wpl_appO (u := u) (α := Channel) rfl _ _ 24 rfl 63 Try.underlying24 elChannel (v := .slice a1 n1 c1) (ys := [(M.iC1 sj).1]) rfl HT.out.2 (Ext.refl _) (by have := hE.size; omega) rfl rfl (Row.one ⟨rfl, rr0, rr1, rr2, rr3, rfl⟩ (fun j y hj => by rw [Nat.zero_add]; exact g2.cell hj)) (by simp) (Own.nil _ _) hlen1 ?_
              intro v2 w2 hO2 hg2
              go_wp2
              have hmw : Mw F0 u w2 := Mw.ofGrown hg2 hFrow
              have hrw : Mw (Option.toList (Value.ownBlock (.slice a1 n1 c1))) u w2 := Mw.ofGrown hg2 (fun k hk => by rw [Option.mem_toList]; exact hk)
              exact hK _ [] _ hmw (fun w3 h => ⟨(HT.out.1.mw hrw (fun hm => by have := hrowL _ (Option.mem_toList.1 hm); omega) (fun k hk => by have := hrowL _ (Option.mem_toList.1 hk); have := hB0.out; omega)).ext h, hO2.ext h⟩) (fun _ _ => trivial) (Own.nil _ _)
            · cases hc
          · intro o ho U u F hE hφ hap ht
            cases ho
            simp only [putAll_toArray, put_toArray, List.map_cons, List.map_nil, setL, List.set_cons_succ, List.set_cons_zero, Bd.d, List.getD_cons_succ, List.getD_cons_zero]
            have d0 := (hφ 0 (by omega)).1
            have d1 := (hφ 1 (by omega)).1
            have d2 := (hφ 2 (by omega)).1
            have d3 := (hφ 3 (by omega)).1
            have d4 := (hφ 4 (by omega)).1
            have d5 := (hφ 5 (by omega)).1
            have d6 := (hφ 6 (by omega)).1
            have d7 := (hφ 7 (by omega)).1
            have d8 := (hφ 8 (by omega)).1
            have d9 := (hφ 9 (by omega)).1
            have d10 := (hφ 10 (by omega)).1
            have d11 := (hφ 11 (by omega)).1
            have o11 := (hφ 11 (by omega)).2
            have d12 := (hφ 12 (by omega)).1
            have o12 := (hφ 12 (by omega)).2
            have d13 := (hφ 13 (by omega)).1
            simp only [Bd.u, List.getD_cons_succ, List.getD_cons_zero, List.map_cons, List.map_nil] at d0 d1 d2 d3 d4 d5 d6 d7 d8 d9 d10 d11 d12 d13
            try simp only [d0, d1, d2, d3, d4, d5, d6, d7, d8, d9, d10, d13]
            replace ht : Rn w u R (M.iC1 sj).2.1 (M.iC1 sj).2.2 ∧ Oo 63 W5.heap.size u (U 58) (wj ++ [(M.iC1 sj).1]) := ht
            clear d0 d1 d2 d3 d4 d5 d6 d7 d8 d9 d10 d11 d12 d13 o11 o12 hap hφ
            have HT := Lib.hid ht
            clear ht
            obtain ⟨p9, n9, q9, e9⟩ := HT.out.2.sh
            simp only [e9] at HT ⊢
            have BU := hE.bk KSi.out hPF
            have c0 := BU.cell (j := 1) rfl
            have cf := BU.fz
            have hlu := BU.lt
            have HBU := Lib.hid BU
            have HE := Lib.hid hE
            clear BU hE
            go_wp2
            go_roundw
            case rel =>
              refine ⟨k8 + 1, _, _, _, by omega, by go_num, (MWi.out.trF HE.out (fun x hx => ?_)).set (by simp) _, by have := HBU.out.set 1 (.slice p9 n9 q9); simpa using this, by rw [HSC.out]; exact HT.out.2.set (by show S < W5.heap.size; omega) _, by rw [HSC.out]; exact HT.out.1.set (by show R ≠ S; omega) (by show _ ≤ S; have := hB0.out; omega) _⟩
              rcases hFsub x hx with h | h
              · exact .inl (by simp [h])
              · exact .inr h
            case measure => simp [intOf]; omega
        · obtain rfl : k8 = n8 := by omega
          have HCS : Hid (M.iCs pp.2 = M.iter M.iC1 k8 s3) := Lib.hid (by unfold M.iCs; rw [← HN8.out, ← hs3.out, Int.toNat_natCast])
          generalize M.iter M.iC1 k8 s3 = cc at *
          obtain ⟨wc, rfl⟩ : ∃ wc : World, wc = wr := ⟨_, rfl⟩
          go_wp2_with (go_at_call 38; refine (impl_many _ _ _ _ _ _ RNi.out).mono ?_; rintro e W6 ⟨r, rfl, hr0, hrr, hm, hn⟩; have HQ := Lib.hid hr0; have HM6 := Lib.hid hm; have RN6 := Lib.hid hn; clear hm hn hr0)
          have hr := HQ.out
          clear HQ
          have hb12 := M.many_bd cc.2.1 (m := 12) (by omega)
          have HN12 : Hid (r = M.mx 12 cc.2) := Lib.hid hr
          rw [← hr] at hb12
          obtain ⟨n12, hn12⟩ : ∃ n : Nat, r = n := ⟨r.toNat, by omega⟩
          subst hn12
          have h12n : n12 ≤ 12 := by omega
          clear hb12 hrr hr
          have hsz6 := Nat.le_of_eq HM6.out.lt.symm
          have KS6 := Lib.hid (HM6.out.bk KSi.out (by simp; omega))
          have MW6 := Lib.hid ((MW5.out.tr MWi.out).tr HM6.out.mw2)
          have hlW6 : S < W6.heap.size := KS6.out.lt
          have hOP6 := Lib.hid (hOP.out.of (w' := W6) (fun k h1 h2 => (HM6.out.2.2.1 k (by simp; omega)).trans (MWi.out.2.2 k (by omega) (by simp; omega))))
          have hOC := Lib.hid (HOi.out.os.osb.of (w' := W6) (fun k h1 h2 => HM6.out.2.2.1 k (by simp; omega)))
          obtain ⟨s4, hs4⟩ : ∃ s : M.St, s = M.ms 12 cc.2 := ⟨_, rfl⟩
          have RS4 : Hid (Rn w W6 R s4.1 s4.2) := Lib.hid (by rw [hs4]; exact RN6.out)
          clear RN6 RNi HM6 KSi MWi HOi hOP KS5 MW5 RS3
          replace hs4 := Lib.hid hs4
          go_loopw [63] (fun i wr => ∃ (k : Nat) (a2 : Option Addr) (n2 c2 : Nat), k ≤ n12 ∧ i = .int .i64 k ∧ Mw [R, S] W6 wr ∧ Bk wr S [.slice ao no co, .slice a1 n1 c1, .slice a2 n2 c2] 27 ∧ Oo 65 W6.heap.size wr (.slice a2 n2 c2) (M.iter M.iS1 k s4).1 ∧ Rn w wr R (M.iter M.iS1 k s4).2.1 (M.iter M.iS1 k s4).2.2) (fun i _ => n12 - (intOf i).toNat)
          case atStart => exact ⟨0, _, _, _, Nat.zero_le _, rfl, Mw.refl _ _, KS6.out, Oo.nil _ _ _, RS4.out⟩
          case round =>
            obtain ⟨k9, a2, n2, c2, hk9, rfl, hmw, hks, hoo, hrn⟩ := hrel
            have MWj := Lib.hid hmw
            have KSj := Lib.hid hks
            have HOj := Lib.hid hoo
            have RNj := Lib.hid hrn
            have hzj := hmw.size
            have hcell := hks.cell (j := 2) rfl
            have hsl := M.iter_len M.iS1 k9 s4
            clear hmw hks hoo hrn
            by_cases hkt : k9 < n12
            · have HSS : Hid (M.iter M.iS1 (k9 + 1) s4 = ((M.iter M.iS1 k9 s4).1 ++ [(M.iS1 (M.iter M.iS1 k9 s4).2).1], (M.iS1 (M.iter M.iS1 k9 s4).2).2)) := Lib.hid rfl
              generalize (M.iter M.iS1 k9 s4).2 = sj at *
              generalize (M.iter M.iS1 k9 s4).1 = wj at *
              have hrs := RNj.out.rngs
              have rr0 := hrs.nx
              have rr1 := hrs.ns.nx
              have hRL : R < W6.heap.size := by omega
              have hlen1 : wj.length + 1 ≤ 4294967296 := by omega
              have hPlt : S < wr.heap.size := by omega
              clear hrs
              go_upto_region 18 with (fail)
              have hF0 : ∀ k ∈ R :: (Value.slice a2 n2 c2).ownBlock.toList, k < wr.heap.size := fun k hk => by
                rcases List.mem_cons.1 hk with rfl | hk
                · exact RNj.out.lt
                · exact HOj.out.lt k (Option.mem_toList.1 hk)
              have hrowL : ∀ k, (Value.slice a2 n2 c2).ownBlock = some k → W6.heap.size ≤ k := HOj.out.own
              have hPF : S ∉ R :: (Value.slice a2 n2 c2).ownBlock.toList := fun hm => by
                rcases List.mem_cons.1 hm with e | hm
                · omega
                · have := hrowL _ (Option.mem_toList.1 hm); omega
              have hFR : R ∈ R :: (Value.slice a2 n2 c2).ownBlock.toList := List.mem_cons_self ..
              have hFrow : ∀ k, (Value.slice a2 n2 c2).ownBlock = some k → k ∈ R :: (Value.slice a2 n2 c2).ownBlock.toList := fun k hk => List.mem_cons_of_mem _ (Option.mem_toList.2 hk)
              have hFsub : ∀ k ∈ R :: (Value.slice a2 n2 c2).ownBlock.toList, k = R ∨ W6.heap.size ≤ k := fun k hk => (List.mem_cons.1 hk).imp (fun h => h) (fun h => hrowL k (Option.mem_toList.1 h))
              generalize R :: (Value.slice a2 n2 c2).ownBlock.toList = F0 at *
              refine wp_region_thr rfl 11 [(65, [65]), (66, [66]), (67, [67]), (68, [68]), (69, [69]), (70, [70]), (71, [71]), (72, [72]), (73, [73]), (74, [74]), (75, [75])]
                (fun i vs u F => match i, vs with
                  | 0, [y] => y = .pointer (some ⟨S, 2, none⟩)
                  | 1, [y] => y = .slice a2 n2 c2
                  | 2, [y] => y = .pointer (some ⟨R, 0, none⟩)
                  | 3, [y] => y = .int .i64 (M.nx sj)
                  | 4, [y] => y = .int .i64 (M.dec (M.nx sj))
                  | 5, [y] => y = .pointer (some ⟨R, 0, none⟩)
                  | 6, [y] => y = .int .i64 (M.nx (M.ns sj))
                  | 7, [y] => y = .agg #[.int .i64 (M.dec (M.nx sj)), .int .i64 (M.nx (M.ns sj))]
                  | 8, [y] => ∃ lb, y = .slice (some ⟨lb, 0, none⟩) 1 1 ∧ wr.heap.size ≤ lb ∧ Bk u lb [.int .i64 (M.dec (M.nx sj)), .int .i64 (M.nx (M.ns sj))] 65
                  | 9, [_] => True
                  | 10, [y] => y = .pointer (some ⟨S, 2, none⟩)
                  | _, _ => False) F0 hF0 [3, 6, 9] (fun c vs u => match c, vs with
                  | 0, _ => Rn w u R sj.1 sj.2 ∧ Oo 65 W6.heap.size u (.slice a2 n2 c2) wj
                  | 1, _ => Rn w u R (M.ns sj).1 (M.ns sj).2 ∧ Oo 65 W6.heap.size u (.slice a2 n2 c2) wj
                  | 2, _ => Rn w u R (M.ns (M.ns sj)).1 (M.ns (M.ns sj)).2 ∧ Oo 65 W6.heap.size u (.slice a2 n2 c2) wj
                  | 3, [_, _, y] => Rn w u R (M.ns (M.ns sj)).1 (M.ns (M.ns sj)).2 ∧ Oo 65 W6.heap.size u y (wj ++ [(M.iS1 sj).1])
                  | _, _ => False) (by decide +kernel) (by decide +kernel) (fun w2 h => ⟨RNj.out.ext h, HOj.out.ext h⟩) ?_ ?_ ?_
              · intro i hi hnt o ho U u F hE hd hap
                have e0 := (hE.cell (o := 2) hPF (by omega)).trans hcell
                rcases (by omega : i = 0 ∨ i = 1 ∨ i = 2 ∨ i = 3 ∨ i = 4 ∨ i = 5 ∨ i = 6 ∨ i = 7 ∨ i = 8 ∨ i = 9 ∨ i = 10) with rfl | rfl | rfl | rfl | rfl | rfl | rfl | rfl | rfl | rfl | rfl
                · cases ho
                  simp only [putAll_toArray, put_toArray, List.map_cons, List.map_nil, setL, List.set_cons_succ, List.set_cons_zero, Bd.d, List.getD_cons_succ, List.getD_cons_zero]
                  intro K hK
                  go_wp2
                  exact hK _ [] _ (Ext.refl u) (fun _ _ => rfl) (Own.nil _ _)
                · cases ho
                  simp only [putAll_toArray, put_toArray, List.map_cons, List.map_nil, setL, List.set_cons_succ, List.set_cons_zero, Bd.d, List.getD_cons_succ, List.getD_cons_zero]
                  have d0 := (hd 0 (by decide +kernel)).1
                  simp only [Bd.u, List.getD_cons_succ, List.getD_cons_zero, List.map_cons, List.map_nil] at d0
                  try simp only [d0]
                  clear d0
                  intro K hK
                  go_wp2
                  exact hK _ [] _ (Ext.refl u) (fun _ _ => rfl) (Own.nil _ _)
                · cases ho
                  simp only [putAll_toArray, put_toArray, List.map_cons, List.map_nil, setL, List.set_cons_succ, List.set_cons_zero, Bd.d, List.getD_cons_succ, List.getD_cons_zero]
                  intro K hK
                  go_wp2
                  exact hK _ [] _ (Ext.refl u) (fun _ _ => rfl) (Own.nil _ _)
                · exact absurd (by decide) hnt
                · cases ho
                  simp only [putAll_toArray, put_toArray, List.map_cons, List.map_nil, setL, List.set_cons_succ, List.set_cons_zero, Bd.d, List.getD_cons_succ, List.getD_cons_zero]
                  have d2 := (hd 2 (by decide +kernel)).1
                  have d3 := (hd 3 (by decide +kernel)).1
                  simp only [Bd.u, List.getD_cons_succ, List.getD_cons_zero, List.map_cons, List.map_nil] at d2 d3
                  try simp only [d2, d3]
                  by_cases hx : M.nx sj = -9223372036854775808
                  · have hq : M.dec (M.nx sj) = 9223372036854775807 := by unfold M.dec; rw [if_pos hx]
                    simp only [hx]
                    intro K hK
                    go_wp2
                    exact hK _ [] _ (Ext.refl u) (fun _ _ => by show _ = Value.int .i64 (M.dec (-9223372036854775808)); have hw : wrap64 (-9223372036854775809) = 9223372036854775807 := (by kernel_rfl); simp [M.dec, hw]) (Own.nil _ _)
                  · have hq : M.dec (M.nx sj) = M.nx sj - 1 := by unfold M.dec; rw [if_neg hx]
                    have hx1 : -9223372036854775807 ≤ M.nx sj := by have := rr0.1; omega
                    have hx2 := rr0.2
                    intro K hK
                    go_wp2
                    exact hK _ [] _ (Ext.refl u) (fun _ _ => by rw [hq]; rfl) (Own.nil _ _)
                · cases ho
                  simp only [putAll_toArray, put_toArray, List.map_cons, List.map_nil, setL, List.set_cons_succ, List.set_cons_zero, Bd.d, List.getD_cons_succ, List.getD_cons_zero]
                  intro K hK
                  go_wp2
                  exact hK _ [] _ (Ext.refl u) (fun _ _ => rfl) (Own.nil _ _)
                · exact absurd (by decide) hnt
                · cases ho
                  simp only [putAll_toArray, put_toArray, List.map_cons, List.map_nil, setL, List.set_cons_succ, List.set_cons_zero, Bd.d, List.getD_cons_succ, List.getD_cons_zero]
                  have d2 := (hd 2 (by decide +kernel)).1
                  have d3 := (hd 3 (by decide +kernel)).1
                  have d4 := (hd 4 (by decide +kernel)).1
                  have d5 := (hd 5 (by decide +kernel)).1
                  have d6 := (hd 6 (by decide +kernel)).1
                  simp only [Bd.u, List.getD_cons_succ, List.getD_cons_zero, List.map_cons, List.map_nil] at d2 d3 d4 d5 d6
                  try simp only [d2, d3, d4, d5, d6]
                  clear d2 d3 d4 d5 d6
                  intro K hK
                  go_wp2
                  exact hK _ [] _ (Ext.refl u) (fun _ _ => rfl) (Own.nil _ _)
                · cases ho
                  simp only [putAll_toArray, put_toArray, List.map_cons, List.map_nil, setL, List.set_cons_succ, List.set_cons_zero, Bd.d, List.getD_cons_succ, List.getD_cons_zero]
                  have d2 := (hd 2 (by decide +kernel)).1
                  have d3 := (hd 3 (by decide +kernel)).1
                  have d4 := (hd 4 (by decide +kernel)).1
                  have d5 := (hd 5 (by decide +kernel)).1
                  have d6 := (hd 6 (by decide +kernel)).1
                  have d7 := (hd 7 (by decide +kernel)).1
                  simp only [Bd.u, List.getD_cons_succ, List.getD_cons_zero, List.map_cons, List.map_nil] at d2 d3 d4 d5 d6 d7
                  try simp only [d2, d3, d4, d5, d6, d7]
                  intro K hK
                  go_wp2
                  have b1 := Bk.new u [.int .i64 (M.dec (M.nx sj)), .int .i64 (M.nx (M.ns sj))] 65
                  exact hK _ [] _ ((Ext.refl u).alloc _) (fun _ h => ⟨_, rfl, hE.size, h.bk b1 (fun hm => by have := hF0 _ hm; have := hE.size; omega)⟩) (Own.nil _ _)
                · exact absurd (by decide) hnt
                · cases ho
                  simp only [putAll_toArray, put_toArray, List.map_cons, List.map_nil, setL, List.set_cons_succ, List.set_cons_zero, Bd.d, List.getD_cons_succ, List.getD_cons_zero]
                  have d0 := (hd 0 (by decide +kernel)).1
                  have d1 := (hd 1 (by decide +kernel)).1
                  have d2 := (hd 2 (by decide +kernel)).1
                  have d3 := (hd 3 (by decide +kernel)).1
                  have d4 := (hd 4 (by decide +kernel)).1
                  have d5 := (hd 5 (by decide +kernel)).1
                  have d6 := (hd 6 (by decide +kernel)).1
                  have d7 := (hd 7 (by decide +kernel)).1
                  have d8 := (hd 8 (by decide +kernel)).1
                  have d9 := (hd 9 (by decide +kernel)).1
                  simp only [Bd.u, List.getD_cons_succ, List.getD_cons_zero, List.map_cons, List.map_nil] at d0 d1 d2 d3 d4 d5 d6 d7 d8 d9
                  clear d8 d9
                  try simp only [d0, d1, d2, d3, d4, d5, d6, d7]
                  clear d0 d1 d2 d3 d4 d5 d6 d7
                  intro K hK
                  go_wp2
                  exact hK _ [] _ (Ext.refl u) (fun _ _ => rfl) (Own.nil _ _)
              · intro c i hc o ho U u F hE hd hap ht
                rcases c with _ | _ | _ | c
                · cases hc
                  cases ho
                  simp only [putAll_toArray, put_toArray, List.map_cons, List.map_nil, setL, List.set_cons_succ, List.set_cons_zero, Bd.d, List.getD_cons_succ, List.getD_cons_zero]
                  have d2 := (hd 2 (by decide +kernel)).1
                  simp only [Bd.u, List.getD_cons_succ, List.getD_cons_zero, List.map_cons, List.map_nil] at d2
                  try simp only [d2]
                  replace ht : Rn w u R sj.1 sj.2 ∧ Oo 65 W6.heap.size u (.slice a2 n2 c2) wj := ht
                  have HT := Lib.hid ht
                  clear ht
                  intro K hK
                  go_wp2_with (go_at_call 39; refine (impl_next _ _ _ _ _ HT.out.1).mono ?_; rintro e w1 ⟨r, rfl, rfl, hrr, hm, hn⟩)
                  exact hK _ [] _ (Mw.wide (Mw.ofMo hm) (fun k hk => by rw [List.mem_singleton] at hk; subst hk; exact hFR)) (fun w3 h => ⟨hn.ext h, (HT.out.2.mo hm (by simpa using hRL)).ext h⟩) (fun _ _ => rfl) (Own.nil _ _)
                · cases hc
                  cases ho
                  simp only [putAll_toArray, put_toArray, List.map_cons, List.map_nil, setL, List.set_cons_succ, List.set_cons_zero, Bd.d, List.getD_cons_succ, List.getD_cons_zero]
                  have d2 := (hd 2 (by decide +kernel)).1
                  have d3 := (hd 3 (by decide +kernel)).1
                  have d5 := (hd 5 (by decide +kernel)).1
                  simp only [Bd.u, List.getD_cons_succ, List.getD_cons_zero, List.map_cons, List.map_nil] at d2 d3 d5
                  try simp only [d2, d3, d5]
                  replace ht : Rn w u R (M.ns sj).1 (M.ns sj).2 ∧ Oo 65 W6.heap.size u (.slice a2 n2 c2) wj := ht
                  have HT := Lib.hid ht
                  clear ht
                  intro K hK
                  go_wp2_with (go_at_call 39; refine (impl_next _ _ _ _ _ HT.out.1).mono ?_; rintro e w1 ⟨r, rfl, rfl, hrr, hm, hn⟩)
                  exact hK _ [] _ (Mw.wide (Mw.ofMo hm) (fun k hk => by rw [List.mem_singleton] at hk; subst hk; exact hFR)) (fun w3 h => ⟨hn.ext h, (HT.out.2.mo hm (by simpa using hRL)).ext h⟩) (fun _ _ => rfl) (Own.nil _ _)
                · cases hc
                  cases ho
                  simp only [putAll_toArray, put_toArray, List.map_cons, List.map_nil, setL, List.set_cons_succ, List.set_cons_zero, Bd.d, List.getD_cons_succ, List.getD_cons_zero]
                  have d0 := (hd 0 (by decide +kernel)).1
                  have d1 := (hd 1 (by decide +kernel)).1
                  have d2 := (hd 2 (by decide +kernel)).1
                  have d3 := (hd 3 (by decide +kernel)).1
                  have d4 := (hd 4 (by decide +kernel)).1
                  have d5 := (hd 5 (by decide +kernel)).1
                  have d6 := (hd 6 (by decide +kernel)).1
                  have d7 := (hd 7 (by decide +kernel)).1
                  have d8 := (hd 8 (by decide +kernel)).1
                  have o8 := (hd 8 (by decide +kernel)).2
                  simp only [Bd.u, List.getD_cons_succ, List.getD_cons_zero, List.map_cons, List.map_nil] at d0 d1 d2 d3 d4 d5 d6 d7 d8
                  try simp only [d0, d1, d2, d3, d4, d5, d6, d7]
                  replace ht : Rn w u R (M.ns (M.ns sj)).1 (M.ns (M.ns sj)).2 ∧ Oo 65 W6.heap.size u (.slice a2 n2 c2) wj := ht
                  have HT := Lib.hid ht
                  clear ht
                  obtain ⟨lb, g0, g1, g2⟩ := d8
                  simp only [g0]
                  intro K hK
                  refine wpl_appO (u := u) (α := Slot) rfl _ _ 25 rfl 65 Try.underlying25 elSlot (v := .slice a2 n2 c2) (ys := [(M.iS1 sj).1]) rfl HT.out.2 (Ext.refl _) (by have := hE.size; omega) rfl rfl (Row.one ⟨rfl, M.dec_rng rr0, rr1, rfl⟩ (fun j y hj => by rw [Nat.zero_add]; exact g2.cell hj)) (by simp) (Own.nil _ _) hlen1 ?_
                  intro v2 w2 hO2 hg2
                  go_wp2
                  have hmw : Mw F0 u w2 := Mw.ofGrown hg2 hFrow
                  have hrw : Mw (Option.toList (Value.ownBlock (.slice a2 n2 c2))) u w2 := Mw.ofGrown hg2 (fun k hk => by rw [Option.mem_toList]; exact hk)
                  exact hK _ [] _ hmw (fun w3 h => ⟨(HT.out.1.mw hrw (fun hm => by have := hrowL _ (Option.mem_toList.1 hm); omega) (fun k hk => by have := hrowL _ (Option.mem_toList.1 hk); have := hB0.out; omega)).ext h, hO2.ext h⟩) (fun _ _ => trivial) (Own.nil _ _)
                · cases hc
              · intro o ho U u F hE hφ hap ht
                cases ho
                simp only [putAll_toArray, put_toArray, List.map_cons, List.map_nil, setL, List.set_cons_succ, List.set_cons_zero, Bd.d, List.getD_cons_succ, List.getD_cons_zero]
                have d0 := (hφ 0 (by omega)).1
                have d1 := (hφ 1 (by omega)).1
                have d2 := (hφ 2 (by omega)).1
                have d3 := (hφ 3 (by omega)).1
                have d4 := (hφ 4 (by omega)).1
                have d5 := (hφ 5 (by omega)).1
                have d6 := (hφ 6 (by omega)).1
                have d7 := (hφ 7 (by omega)).1
                have d8 := (hφ 8 (by omega)).1
                have o8 := (hφ 8 (by omega)).2
                have d9 := (hφ 9 (by omega)).1
                have o9 := (hφ 9 (by omega)).2
                have d10 := (hφ 10 (by omega)).1
                simp only [Bd.u, List.getD_cons_succ, List.getD_cons_zero, List.map_cons, List.map_nil] at d0 d1 d2 d3 d4 d5 d6 d7 d8 d9 d10
                try simp only [d0, d1, d2, d3, d4, d5, d6, d7, d10]
                replace ht : Rn w u R (M.iS1 sj).2.1 (M.iS1 sj).2.2 ∧ Oo 65 W6.heap.size u (U 74) (wj ++ [(M.iS1 sj).1]) := ht
                clear d0 d1 d2 d3 d4 d5 d6 d7 d8 d9 d10 o8 o9 hap hφ
                have HT := Lib.hid ht
                clear ht
                obtain ⟨p9, n9, q9, e9⟩ := HT.out.2.sh
                simp only [e9] at HT ⊢
                have BU := hE.bk KSj.out hPF
                have c0 := BU.cell (j := 2) rfl
                have cf := BU.fz
                have hlu := BU.lt
                have HBU := Lib.hid BU
                have HE := Lib.hid hE
                clear BU hE
                go_wp2
                go_roundw
                case rel =>
                  refine ⟨k9 + 1, _, _, _, by omega, by go_num, (MWj.out.trF HE.out (fun x hx => ?_)).set (by simp) _, by have := HBU.out.set 2 (.slice p9 n9 q9); simpa using this, by rw [HSS.out]; exact HT.out.2.set (by show S < W6.heap.size; omega) _, by rw [HSS.out]; exact HT.out.1.set (by show R ≠ S; omega) (by show _ ≤ S; have := hB0.out; omega) _⟩
                  rcases hFsub x hx with h | h
                  · exact .inl (by simp [h])
                  · exact .inr h
                case measure => simp [intOf]; omega
            · obtain rfl : k9 = n12 := by omega
              have HSL : Hid (M.iSs cc.2 = M.iter M.iS1 k9 s4) := Lib.hid (by unfold M.iSs; rw [← HN12.out, ← hs4.out, Int.toNat_natCast])
              generalize M.iter M.iS1 k9 s4 = ss at *
              have HALL : Hid (M.iAll (xs, false) = ⟨pp.1, cc.1, ss.1⟩ ∧ M.iEnd (xs, false) = ss.2) := Lib.hid (by
                unfold M.iAll M.iEnd; rw [HPS.out, HCS.out, HSL.out]; exact ⟨rfl, rfl⟩)
              have RF := M.readI_f (xs := xs)
              have RT := M.readI_t (xs := xs)
              rw [HALL.out.1] at RF RT
              rw [HALL.out.2] at RF
              generalize hst : (⟨pp.1, cc.1, ss.1⟩ : Setup) = st at *
              have MWA := Lib.hid (MW6.out.tr MWj.out)
              have KBe := Lib.hid (MWA.out.bk KB1.out (by simp; omega))
              have EW := Lib.hid RNj.out.2.1
              obtain ⟨F0, SP, OP, hF0⟩ := hOP6.out.of (w' := wr) (fun k h1 h2 => MWj.out.2.2 k (by omega) (by simp; omega))
              obtain ⟨F1, SC, OC, hF1⟩ := hOC.out.of (w' := wr) (fun k h1 h2 => MWj.out.2.2 k (by omega) (by simp; omega))
              obtain ⟨F2, SS2, OS⟩ := HOj.out.os
              have RV : Hid (Rv wr (.agg #[.slice ao no co, .slice a1 n1 c1, .slice a2 n2 c2]) st) := Lib.hid (by
                rw [← hst]; exact ⟨_, _, rfl, _, _, _, _, _, _, rfl, SP, SC, SS2, rfl⟩)
              obtain ⟨fb, ff⟩ := RNj.out.bad
              have k0 := KSj.out.cell (j := 0) rfl
              have k1 := KSj.out.cell (j := 1) rfl
              have k2 := KSj.out.cell (j := 2) rfl
              have b0 := KBe.out.cell (j := 0) rfl
              have b1 := KBe.out.cell (j := 1) rfl
              have b2 := KBe.out.cell (j := 2) rfl
              have bf := KBe.out.fz
              have bl := KBe.out.lt
              clear SP OP hF0 SC OC hF1 SS2 OS hOP6 hOC HOj KS6 MW6 RS4 KB1 MWj MWA HPS HCS HSL
              replace RF := Lib.hid RF
              replace RT := Lib.hid RT
              replace hst := Lib.hid hst
              generalize ss.2.2 = bad at *
              cases bad
              · cases g : M.setv st
                · have HM := Lib.hid (RF.out (.inr (.inl g)))
                  go_upto_region 21 with (go_at_call 17; refine (impl_SetupValid _ st _ RV.out).mono ?_; rintro e w6 ⟨he, he6⟩; rw [g] at he; subst he; have E6 := Lib.hid he6; have y0 := (KBe.out.ext he6).cell (j := 0) rfl; have y1 := (KBe.out.ext he6).cell (j := 1) rfl; have y2 := (KBe.out.ext he6).cell (j := 2) rfl; have yf := (KBe.out.ext he6).fz; have yl := (KBe.out.ext he6).lt; clear he6)
                  go_wp2
                  refine bodyPost_ret (v := .tuple #[.agg #[.slice none 0 0, .slice none 0 0, .slice none 0 0], .bool false]) (by simp [results, Try.results14, go_sem, y0, y1, y2]) rfl ⟨_, by rw [HM.out], by rw [HM.out]; exact ov_zero, ?_⟩
                  exact ((((EW.out.tr E6.out)).set (by show _ ≤ B0; have := hB0.out; omega) _).set (by show _ ≤ B0; have := hB0.out; omega) _).set (by show _ ≤ B0; have := hB0.out; omega) _
                · have hnum : Hid (M.numbers st = M.nums st) := Lib.hid (by unfold M.numbers; rw [if_pos g])
                  cases hq : Eqb (M.numbers st) xs
                  · have HM := Lib.hid (RF.out (.inr (.inr (fun e => by rw [hnum.out, Eqb.t e] at hq; cases hq))))
                    go_upto_region 21 with (first
                      | (go_at_call 17; refine (impl_SetupValid _ st _ RV.out).mono ?_; rintro e w6 ⟨he, he6⟩; rw [g] at he; subst he; have E6 := Lib.hid he6; have k0' := (KSj.out.ext he6).cell (j := 0) rfl; have k1' := (KSj.out.ext he6).cell (j := 1) rfl; have k2' := (KSj.out.ext he6).cell (j := 2) rfl; clear he6)
                      | (go_at_call 10; refine (impl_SetupNumbers _ st _ (RV.out.ext E6.out)).mono ?_; rintro e w7 ⟨v7, rfl, ho7, he7⟩; have E7 := Lib.hid (E6.out.tr he7); have HO7 := Lib.hid ho7.rs; obtain ⟨p7, q7, rfl, _⟩ := ho7.form; clear ho7 he7)
                      | (go_at_call 40; refine (impl_Equal_int _ _ (M.numbers st) xs _ HO7.out (H.out.ext (EW.out.tr E7.out))).mono ?_; rintro e w8 ⟨he, he8⟩; rw [hq] at he; subst he; have E8 := Lib.hid (E7.out.tr he8); have y0 := (KBe.out.ext E8.out).cell (j := 0) rfl; have y1 := (KBe.out.ext E8.out).cell (j := 1) rfl; have y2 := (KBe.out.ext E8.out).cell (j := 2) rfl; have yf := (KBe.out.ext E8.out).fz; have yl := (KBe.out.ext E8.out).lt; clear he8))
                    go_wp2
                    refine bodyPost_ret (v := .tuple #[.agg #[.slice none 0 0, .slice none 0 0, .slice none 0 0], .bool false]) (by simp [results, Try.results14, go_sem, y0, y1, y2]) rfl ⟨_, by rw [HM.out], by rw [HM.out]; exact ov_zero, ?_⟩
                    exact ((((EW.out.tr E8.out)).set (by show _ ≤ B0; have := hB0.out; omega) _).set (by show _ ≤ B0; have := hB0.out; omega) _).set (by show _ ≤ B0; have := hB0.out; omega) _
                  · have HM := Lib.hid (RT.out g (by rw [← hnum.out]; exact Eqb.iff.1 hq))
                    have htot := M.setv_tot g
                    go_upto_region 22 with (first
                      | (go_at_call 17; refine (impl_SetupValid _ st _ RV.out).mono ?_; rintro e w6 ⟨he, he6⟩; rw [g] at he; subst he; have E6 := Lib.hid he6; have k0' := (KSj.out.ext he6).cell (j := 0) rfl; have k1' := (KSj.out.ext he6).cell (j := 1) rfl; have k2' := (KSj.out.ext he6).cell (j := 2) rfl; clear he6)
                      | (go_at_call 10; refine (impl_SetupNumbers _ st _ (RV.out.ext E6.out)).mono ?_; rintro e w7 ⟨v7, rfl, ho7, he7⟩; have E7 := Lib.hid (E6.out.tr he7); have HO7 := Lib.hid ho7.rs; obtain ⟨p7, q7, rfl, _⟩ := ho7.form; clear ho7 he7)
                      | (go_at_call 40; refine (impl_Equal_int _ _ (M.numbers st) xs _ HO7.out (H.out.ext (EW.out.tr E7.out))).mono ?_; rintro e w8 ⟨he, he8⟩; rw [hq] at he; subst he; have E8 := Lib.hid (E7.out.tr he8); have j0 := (KSj.out.ext E8.out).cell (j := 0) rfl; have j1 := (KSj.out.ext E8.out).cell (j := 1) rfl; have j2 := (KSj.out.ext E8.out).cell (j := 2) rfl; clear he8))
                    go_wp2_with (go_at_call 41; refine (impl_copyOf_Setup _ st _ (RV.out.ext E8.out) (by omega)).mono ?_; rintro e w9 ⟨v9, rfl, ho9, he9⟩; have HO9 := Lib.hid ho9; obtain ⟨c0, d0, c1, d1, c2, d2, rfl, _⟩ := ho9.rv.openSetup; have E9 := Lib.hid (E8.out.tr he9); have y0 := (KBe.out.ext E9.out).cell (j := 0) rfl; have y1 := (KBe.out.ext E9.out).cell (j := 1) rfl; have y2 := (KBe.out.ext E9.out).cell (j := 2) rfl; have yf := (KBe.out.ext E9.out).fz; have yl := (KBe.out.ext E9.out).lt; have hl8 := E8.out.sz; clear ho9 he9)
                    refine bodyPost_ret (v := .tuple #[.agg #[.slice c0 st.Parts.length d0, .slice c1 st.Channels.length d1, .slice c2 st.Slots.length d2], .bool true]) (by simp [results, Try.results14, go_sem, y0, y1, y2]) rfl ⟨_, by rw [HM.out], ?_, ?_⟩
                    · rw [HM.out]
                      exact (HO9.out.hi (((Hi.refl _ _).set (by show B0 < _; omega) _).set (by show B0 < _; omega) _ |>.set (by show B0 < _; omega) _)).mono (by have := hB0.out; omega)
                    · exact ((((EW.out.tr E9.out)).set (by show _ ≤ B0; have := hB0.out; omega) _).set (by show _ ≤ B0; have := hB0.out; omega) _).set (by show _ ≤ B0; have := hB0.out; omega) _
              · have HM := Lib.hid (RF.out (.inl rfl))
                go_upto_region 21 with (fail)
                go_wp2
                refine bodyPost_ret (v := .tuple #[.agg #[.slice none 0 0, .slice none 0 0, .slice none 0 0], .bool false]) (by simp [results, Try.results14, go_sem, b0, b1, b2]) rfl ⟨_, by rw [HM.out], by rw [HM.out]; exact ov_zero, ?_⟩
                exact ((EW.out.set (by show _ ≤ B0; have := hB0.out; omega) _).set (by show _ ≤ B0; have := hB0.out; omega) _).set (by show _ ≤ B0; have := hB0.out; omega) _
end Sk

