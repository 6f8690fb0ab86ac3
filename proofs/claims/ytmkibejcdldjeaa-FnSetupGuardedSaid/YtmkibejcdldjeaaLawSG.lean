/- Contracts of functions of the given program, and lemmas for them: each theorem states the condition under which it holds. -/
import Derived.Test.YtmkibejcdldjeaaChecked
import Derived.Deep.CutBlock
import Derived.Deep.CutRange
import Derived.Test.YtmkibejcdldjeaaCopy
import Derived.Test.YtmkibejcdldjeaaDrawSF
import Derived.Test.YtmkibejcdldjeaaFaultK
import Derived.Test.YtmkibejcdldjeaaFaultT
import Derived.Test.YtmkibejcdldjeaaDrawPV
import Derived.Test.YtmkibejcdldjeaaNums
import Derived.Test.YtmkibejcdldjeaaBuild
import Derived.Test.YtmkibejcdldjeaaAcc
import Derived.Test.YtmkibejcdldjeaaRead
import Derived.Test.YtmkibejcdldjeaaTypes
import Derived.Test.YtmkibejcdldjeaaClash
import Derived.Test.YtmkibejcdldjeaaParse
import Derived.Test.YtmkibejcdldjeaaLawLP
import Derived.Test.YtmkibejcdldjeaaFoc
import Derived.Test.YtmkibejcdldjeaaGaps
import Derived.Test.YtmkibejcdldjeaaDrawW
namespace Sk
open Go Go.Proofs Go.RowKit
set_option maxHeartbeats 3000000
set_option maxRecDepth 100000
set_option linter.unusedVariables false
set_option linter.unusedSimpArgs false
theorem Rv.slots' {w : World} {a0 a1 a2 : Option Addr} {n0 n1 n2 c0 c1 c2 : Nat} {s : Setup} (h : Rv w (.agg #[.slice a0 n0 c0, .slice a1 n1 c1, .slice a2 n2 c2]) s) : Rs w (.slice a2 n2 c2) s.Slots := by
  obtain ⟨cs, F, he, v0, v1, v2, F0, F1, F2, rfl, h0, h1, h2, rfl⟩ := h
  have hq := agg_inj he
  have : #[Value.slice a0 n0 c0, .slice a1 n1 c1, .slice a2 n2 c2].toList = [v0, v1, v2] := by rw [hq]
  simp at this
  obtain ⟨rfl, rfl, rfl⟩ := this
  exact ⟨F2, h2⟩
theorem Rv.same {α : Type} [GT α] {w w' : World} {v : Value} {x : α} (h : Rv w v x) (hk : ∀ k, k < w.heap.size → w'.heap[k]? = w.heap[k]?) : Rv w' v x := by
  obtain ⟨cs, F, h1, h2⟩ := h
  exact ⟨cs, F, h1, GT.keep h2 (fun k m => hk k (GT.inh h2 k m))⟩
theorem Rv.withSlots {w : World} {a0 a1 a2 a : Option Addr} {n0 n1 n2 n c0 c1 c2 c : Nat} {s : Setup} {xs : List Slot} (h : Rv w (.agg #[.slice a0 n0 c0, .slice a1 n1 c1, .slice a2 n2 c2]) s) (k : Rs w (.slice a n c) xs) :
    Rv w (.agg #[.slice a0 n0 c0, .slice a1 n1 c1, .slice a n c]) { s with Slots := xs } := by
  obtain ⟨cs, F, he, v0, v1, v2, F0, F1, F2, rfl, h0, h1, h2, rfl⟩ := h
  have hq := agg_inj he
  have : #[Value.slice a0 n0 c0, .slice a1 n1 c1, .slice a2 n2 c2].toList = [v0, v1, v2] := by rw [hq]
  simp at this
  obtain ⟨rfl, rfl, rfl⟩ := this
  obtain ⟨G, hG⟩ := k
  exact ⟨_, F0 ++ (F1 ++ G), rfl, _, _, _, F0, F1, G, rfl, h0, h1, hG, rfl⟩
theorem Bk.slots2 {w : World} {b : Nat} {T : TypeId} {x y : Slot} (k : Bk w b [.int .i64 x.Who, .int .i64 x.Ticks, .int .i64 y.Who, .int .i64 y.Ticks] T) (h1 : rng x.Who) (h2 : rng x.Ticks) (h3 : rng y.Who) (h4 : rng y.Ticks) : Row w b 0 [x, y] [] := by
  refine ⟨[.int .i64 x.Who, .int .i64 x.Ticks], [], [], ⟨rfl, h1, h2, rfl⟩, fun j u hj => ?_, rfl, [.int .i64 y.Who, .int .i64 y.Ticks], [], [], ⟨rfl, h3, h4, rfl⟩, fun j u hj => ?_, rfl, rfl⟩
  · rcases j with _ | _ | j
    · cases hj; exact k.cell (j := 0) rfl
    · cases hj; exact k.cell (j := 1) rfl
    · cases hj
  · rcases j with _ | _ | j
    · cases hj; exact k.cell (j := 2) rfl
    · cases hj; exact k.cell (j := 3) rfl
    · cases hj
theorem lawSetupGuarded (v : Value) (xs : List By) (w : World) (h : Rs w v xs) :
    Calls Try.prog 6 #[v] w fun e w' => e = .returned (.bool true) ∧ Ext w w' := by
  obtain ⟨a, c, rfl, hl⟩ := h.form
  have H := Lib.hid h
  clear h
  by_cases hx : xs.length ≤ 1048576
  rotate_left
  · have hx2 : 1048576 < xs.length := by omega
    clear hx
    go_enter Try.func6, Try.ntmps6
    go_wp2
    go_ret
    exact ⟨rfl, Ext.refl w⟩
  go_enter Try.func6, Try.ntmps6
  go_upto_region 4 with (go_at_call 17; refine (spec_DrawSetupFaults _ _ _ H.out).mono ?_; rintro e w1 ⟨v', s, rfl, hp, hds, he⟩; obtain ⟨a0, c0, a1, c1, a2, c2, rfl, hl0, hl1, hl2⟩ := hp.openS; have HP := Lib.hid hp.rv; have HE := Lib.hid he; have HDS := Lib.hid hds; clear hp he hds)
  refine abs_world (fun W1 => Ext w1 W1 ∧ Bk W1 w1.heap.size [.slice a0 s.Parts.length c0, .slice a1 s.Channels.length c1, .slice a2 s.Slots.length c2] 27) ⟨(Ext.refl _).alloc _, Bk.new _ _ _⟩ ?_
  rintro W1 ⟨e1, kA⟩
  have HE1 := Lib.hid (HE.out.tr e1)
  have KA := Lib.hid kA
  have hA := kA.lt
  have d0 := kA.cell (j := 0) rfl
  have d1 := kA.cell (j := 1) rfl
  have d2 := kA.cell (j := 2) rfl
  replace HP := Lib.hid (HP.out.ext e1)
  clear e1 kA HE
  obtain ⟨L, hL⟩ : ∃ L, M.faults s = L := ⟨_, rfl⟩
  go_region_held3 (fun u => u.cell? ⟨w1.heap.size, 0, none⟩ = some (.slice a0 s.Parts.length c0) ∧ u.cell? ⟨w1.heap.size, 1, none⟩ = some (.slice a1 s.Channels.length c1) ∧ u.cell? ⟨w1.heap.size, 2, none⟩ = some (.slice a2 s.Slots.length c2))
    (first
      | go_keep
      | exact ⟨(cell_ext HE4.out hA).trans d0, (cell_ext HE4.out hA).trans d1, (cell_ext HE4.out hA).trans d2⟩)
    (first
      | (go_at_call 9; refine (law_sameInts _ _ L L _ HO4.out HO5.out).mono ?_; rintro e w6 ⟨rfl, he⟩; rw [Eqb.t (rfl : L = L)]; replace HE4 := Lib.hid (HE4.out.tr he); clear he)
      | (go_at_call 19; refine (spec_SetupFaults _ s _ (HP.out.ext HE4.out)).mono ?_; rintro e w5 ⟨v5, rfl, ho, he⟩; rw [hL] at ho; have HO5 := Lib.hid ho.rs; replace HO4 := Lib.hid (HO4.out.ext he); replace HE4 := Lib.hid (HE4.out.tr he); clear ho he)
      | (go_at_call 18; refine (impl_SetupFaults _ s _ (HP.out.ext (Ext.refl W1).drew)).mono ?_; rintro e w4 ⟨v4, rfl, ho, he⟩; rw [hL] at ho; have HO4 := Lib.hid ho.rs; have HE4 := Lib.hid ((Ext.refl W1).drew.tr he); clear ho he))
  have HS := Lib.hid (HE1.out.tr HE4.out)
  have KA6 := KA.out.ext HE4.out
  have f0 := KA6.cell (j := 0) rfl
  have f1 := KA6.cell (j := 1) rfl
  have f2 := KA6.cell (j := 2) rfl
  have hA6 := KA6.lt
  replace HP := Lib.hid (HP.out.ext HE4.out)
  replace KA6 := Lib.hid KA6
  have h13 : s.Slots.length ≤ 13 := HDS.out.2.2.2
  clear HO4 HO5 KA HE1 HE4 d0 d1 d2 hA
  by_cases h12 : 12 < 2 * s.Slots.length
  · have hd : decide ((12 : Int) < 2 * (s.Slots.length : Int)) = true := decide_eq_true (by omega)
    go_wp2_with (go_at_call 13; refine (law_alive _).mono ?_; rintro e w7 ⟨rfl, he⟩; have HE6 := Lib.hid he; clear he)
    go_ret
    exact ⟨rfl, HS.out.tr HE6.out⟩
  have hd : decide ((12 : Int) < 2 * (s.Slots.length : Int)) = false := decide_eq_false (by omega)
  have htg := Lib.hid (M.faults_no3 (M.dbl_tight s))
  go_upto_region 10 with (fail)
  refine abs_world (fun W => Ext w6 W ∧ Bk W w6.heap.size [.slice a0 s.Parts.length c0, .slice a1 s.Channels.length c1, .slice none 0 0] 27) ⟨(Ext.refl _).alloc _, Bk.new _ _ _⟩ ?_
  rintro W ⟨e7, kB⟩
  have HW := Lib.hid e7
  have hB := kB.lt
  have hsW := e7.sz
  have KA7 := Lib.hid (KA6.out.ext e7)
  have KB7 := Lib.hid kB
  have HSL := Lib.hid HP.out.slots'
  have HP6 := Lib.hid HP.out
  replace HP := Lib.hid (HP.out.ext e7)
  have HE7 := Lib.hid e7
  clear e7 kB f0 f1 f2 KA6
  go_wp2_with fail
  go_loopw [5] (fun i wr => ∃ (k : Nat) (ao : Option Addr) (no co : Nat), k ≤ s.Slots.length ∧ i = .int .i64 k ∧ Bk wr w6.heap.size [.slice a0 s.Parts.length c0, .slice a1 s.Channels.length c1, .slice ao no co] 27 ∧ Oo 45 W.heap.size wr (.slice ao no co) (M.dbl (s.Slots.take k)) ∧ Mw [w6.heap.size] W wr) (fun i _ => s.Slots.length - (intOf i).toNat)
  case atStart => exact ⟨0, _, _, _, Nat.zero_le _, rfl, KB7.out, Oo.nil _ _ _, Mw.ofExt (Ext.refl _)⟩
  case round =>
    obtain ⟨k, ao, no, co, hk, rfl, hkb, ho, hmw⟩ := hrel
    have g2 := hkb.cell (j := 2) rfl
    have ka := hmw.bk KA7.out (by simp; omega)
    have f2 := ka.cell (j := 2) rfl
    have hBl := hkb.lt
    have hAl := ka.lt
    have HO := Lib.hid ho
    have HMW := Lib.hid hmw
    have KB := Lib.hid hkb
    have hsz := hmw.size
    clear hkb ka ho hmw
    by_cases hkt : k < s.Slots.length
    · obtain ⟨b, o, x, rfl, hb, hx, hc0, hc1, hr0, hr1, hvx⟩ := HSL.out.atSlot k hkt
      have e0 := HMW.out.cell0 ((cell_ext HE7.out hb).trans hc0) (by simp; omega) (by omega)
      have e1 := HMW.out.cell0 ((cell_ext HE7.out hb).trans hc1) (by simp; omega) (by omega)
      have hbl : b < wr.heap.size := by omega
      have hgl : (M.dbl (s.Slots.take k)).length ≤ 12 := by rw [M.dbl_len, List.length_take]; omega
      have HNX := Lib.hid (M.dbl_next hx.out)
      have hno : ∀ j, (Value.slice ao no co).ownBlock = some j → W.heap.size ≤ j := HO.out.own
      obtain ⟨wi, rfl⟩ : ∃ wi, wi = wr := ⟨_, rfl⟩
      go_upto_region 13 with (fail)
      refine wp_region_grow rfl 11 [(34, [34]), (35, [35]), (36, [36]), (37, [37]), (38, [38]), (39, [39]), (40, [40]), (41, [41]), (42, [42]), (43, [43]), (44, [44])]
        (fun i vs u F => match i, vs with
          | 0, [y] => y = .pointer (some ⟨w6.heap.size, 2, none⟩)
          | 1, [y] => y = .slice ao no co
          | 2, [y] => y = .pointer (some ⟨w1.heap.size, 2, none⟩)
          | 3, [y] => y = .slice (some ⟨b, o, none⟩) s.Slots.length c2
          | 4, [y] => y = .int .i64 k
          | 5, [y] => y = .pointer (some ⟨b, o + k * 2, none⟩)
          | 6, [y] => y = .agg #[.int .i64 x.Who, .int .i64 x.Ticks]
          | 7, [y] => y = .agg #[.int .i64 (-1), .int .i64 1]
          | 8, [y] => ∃ lb, y = .slice (some ⟨lb, 0, none⟩) 2 2 ∧ Bk u lb [.int .i64 x.Who, .int .i64 x.Ticks, .int .i64 (-1), .int .i64 1] 45
          | 9, [y] => Oo 45 W.heap.size u y (M.dbl (s.Slots.take k) ++ [x, (⟨-1, 1⟩ : Slot)])
          | 10, [y] => y = .pointer (some ⟨w6.heap.size, 2, none⟩)
          | _, _ => False) 9 (Value.slice ao no co).ownBlock HO.out.lt (by decide +kernel) ?_ ?_ ?_
      · intro i hi hne oo hoo U u F hG hd hap
        have q0 := grown_cell hG g2 hBl (fun j hj => by have := hno j hj; omega)
        have q1 := grown_cell hG f2 hAl (fun j hj => by have := hno j hj; omega)
        have q2 := grown_cell hG e0 hbl (fun j hj => by have := hno j hj; omega)
        have q3 := grown_cell hG e1 hbl (fun j hj => by have := hno j hj; omega)
        rcases (by omega : i = 0 ∨ i = 1 ∨ i = 2 ∨ i = 3 ∨ i = 4 ∨ i = 5 ∨ i = 6 ∨ i = 7 ∨ i = 8 ∨ i = 9 ∨ i = 10) with rfl | rfl | rfl | rfl | rfl | rfl | rfl | rfl | rfl | rfl | rfl
        · cases hoo
          simp only [putAll_toArray, put_toArray, List.map_cons, List.map_nil, setL, List.set_cons_succ, List.set_cons_zero, Bd.d, List.getD_cons_succ, List.getD_cons_zero]
          intro K hK
          go_wp2
          exact hK _ [] _ (Ext.refl u) (fun _ _ => rfl) (Own.nil _ _)
        · cases hoo
          simp only [putAll_toArray, put_toArray, List.map_cons, List.map_nil, setL, List.set_cons_succ, List.set_cons_zero, Bd.d, List.getD_cons_succ, List.getD_cons_zero]
          have d0 := (hd 0 (by decide +kernel)).1
          simp only [Bd.u, List.getD_cons_succ, List.getD_cons_zero, List.map_cons, List.map_nil] at d0
          try simp only [d0]
          clear d0
          intro K hK
          go_wp2
          exact hK _ [] _ (Ext.refl u) (fun _ _ => rfl) (Own.nil _ _)
        · cases hoo
          simp only [putAll_toArray, put_toArray, List.map_cons, List.map_nil, setL, List.set_cons_succ, List.set_cons_zero, Bd.d, List.getD_cons_succ, List.getD_cons_zero]
          intro K hK
          go_wp2
          exact hK _ [] _ (Ext.refl u) (fun _ _ => rfl) (Own.nil _ _)
        · cases hoo
          simp only [putAll_toArray, put_toArray, List.map_cons, List.map_nil, setL, List.set_cons_succ, List.set_cons_zero, Bd.d, List.getD_cons_succ, List.getD_cons_zero]
          have d2 := (hd 2 (by decide +kernel)).1
          simp only [Bd.u, List.getD_cons_succ, List.getD_cons_zero, List.map_cons, List.map_nil] at d2
          try simp only [d2]
          clear d2
          intro K hK
          go_wp2
          exact hK _ [] _ (Ext.refl u) (fun _ _ => rfl) (Own.nil _ _)
        · cases hoo
          simp only [putAll_toArray, put_toArray, List.map_cons, List.map_nil, setL, List.set_cons_succ, List.set_cons_zero, Bd.d, List.getD_cons_succ, List.getD_cons_zero]
          intro K hK
          go_wp2
          exact hK _ [] _ (Ext.refl u) (fun _ _ => rfl) (Own.nil _ _)
        · cases hoo
          simp only [putAll_toArray, put_toArray, List.map_cons, List.map_nil, setL, List.set_cons_succ, List.set_cons_zero, Bd.d, List.getD_cons_succ, List.getD_cons_zero]
          have d2 := (hd 2 (by decide +kernel)).1
          have d3 := (hd 3 (by decide +kernel)).1
          have d4 := (hd 4 (by decide +kernel)).1
          simp only [Bd.u, List.getD_cons_succ, List.getD_cons_zero, List.map_cons, List.map_nil] at d2 d3 d4
          try simp only [d2, d3, d4]
          clear d2 d3 d4
          intro K hK
          go_wp2
          exact hK _ [] _ (Ext.refl u) (fun _ _ => rfl) (Own.nil _ _)
        · cases hoo
          simp only [putAll_toArray, put_toArray, List.map_cons, List.map_nil, setL, List.set_cons_succ, List.set_cons_zero, Bd.d, List.getD_cons_succ, List.getD_cons_zero]
          have d2 := (hd 2 (by decide +kernel)).1
          have d3 := (hd 3 (by decide +kernel)).1
          have d4 := (hd 4 (by decide +kernel)).1
          have d5 := (hd 5 (by decide +kernel)).1
          simp only [Bd.u, List.getD_cons_succ, List.getD_cons_zero, List.map_cons, List.map_nil] at d2 d3 d4 d5
          try simp only [d2, d3, d4, d5]
          clear d2 d3 d4 d5
          intro K hK
          go_wp2
          exact hK _ [] _ (Ext.refl u) (fun _ _ => rfl) (Own.nil _ _)
        · cases hoo
          simp only [putAll_toArray, put_toArray, List.map_cons, List.map_nil, setL, List.set_cons_succ, List.set_cons_zero, Bd.d, List.getD_cons_succ, List.getD_cons_zero]
          intro K hK
          go_wp2
          exact hK _ [] _ (Ext.refl u) (fun _ _ => rfl) (Own.nil _ _)
        · cases hoo
          simp only [putAll_toArray, put_toArray, List.map_cons, List.map_nil, setL, List.set_cons_succ, List.set_cons_zero, Bd.d, List.getD_cons_succ, List.getD_cons_zero]
          have d2 := (hd 2 (by decide +kernel)).1
          have d3 := (hd 3 (by decide +kernel)).1
          have d4 := (hd 4 (by decide +kernel)).1
          have d5 := (hd 5 (by decide +kernel)).1
          have d6 := (hd 6 (by decide +kernel)).1
          have d7 := (hd 7 (by decide +kernel)).1
          simp only [Bd.u, List.getD_cons_succ, List.getD_cons_zero, List.map_cons, List.map_nil] at d2 d3 d4 d5 d6 d7
          try simp only [d2, d3, d4, d5, d6, d7]
          intro K hK
          go_wp2
          have b1 := Bk.new u [.int .i64 x.Who, .int .i64 x.Ticks, .int .i64 (-1), .int .i64 1] 45
          exact hK _ [] _ ((Ext.refl u).alloc _) (fun _ h => ⟨_, rfl, b1.grown h fun e => by have := HO.out.lt _ e; have := hG.size; omega⟩) (Own.nil _ _)
        · exact absurd rfl hne
        · cases hoo
          simp only [putAll_toArray, put_toArray, List.map_cons, List.map_nil, setL, List.set_cons_succ, List.set_cons_zero, Bd.d, List.getD_cons_succ, List.getD_cons_zero]
          have d0 := (hd 0 (by decide +kernel)).1
          have d1 := (hd 1 (by decide +kernel)).1
          have d2 := (hd 2 (by decide +kernel)).1
          have d3 := (hd 3 (by decide +kernel)).1
          have d4 := (hd 4 (by decide +kernel)).1
          have d5 := (hd 5 (by decide +kernel)).1
          have d6 := (hd 6 (by decide +kernel)).1
          have d7 := (hd 7 (by decide +kernel)).1
          have d8 := (hd 8 (by decide +kernel)).1
          have d9 := (hd 9 (by decide +kernel)).1
          simp only [Bd.u, List.getD_cons_succ, List.getD_cons_zero, List.map_cons, List.map_nil] at d0 d1 d2 d3 d4 d5 d6 d7 d8 d9
          clear d8 d9
          try simp only [d0, d1, d2, d3, d4, d5, d6, d7]
          clear d0 d1 d2 d3 d4 d5 d6 d7
          intro K hK
          go_wp2
          exact hK _ [] _ (Ext.refl u) (fun _ _ => rfl) (Own.nil _ _)
      · intro _ oo hoo U u F hE hd hap
        cases hoo
        simp only [putAll_toArray, put_toArray, List.map_cons, List.map_nil, setL, List.set_cons_succ, List.set_cons_zero, Bd.d, List.getD_cons_succ, List.getD_cons_zero]
        have d0 := (hd 0 (by decide +kernel)).1
        have d1 := (hd 1 (by decide +kernel)).1
        have d2 := (hd 2 (by decide +kernel)).1
        have d3 := (hd 3 (by decide +kernel)).1
        have d4 := (hd 4 (by decide +kernel)).1
        have d5 := (hd 5 (by decide +kernel)).1
        have d6 := (hd 6 (by decide +kernel)).1
        have d7 := (hd 7 (by decide +kernel)).1
        have d8 := (hd 8 (by decide +kernel)).1
        have o8 := (hd 8 (by decide +kernel)).2
        simp only [Bd.u, List.getD_cons_succ, List.getD_cons_zero, List.map_cons, List.map_nil] at d0 d1 d2 d3 d4 d5 d6 d7 d8
        try simp only [d0, d1, d2, d3, d4, d5, d6, d7]
        obtain ⟨lb, d8, b8⟩ := d8
        simp only [d8]
        intro K hK
        refine wpl_appO (u := wi) (α := Slot) rfl _ _ 25 rfl 45 Try.underlying25 elSlot (v := .slice ao no co) (ys := [x, (⟨-1, 1⟩ : Slot)]) rfl HO.out hE hsz rfl rfl (Bk.slots2 (x := x) (y := ⟨-1, 1⟩) b8 hr0 hr1 (rng_sm (by show _ ≤ (-1 : Int); omega) (by show (-1 : Int) ≤ _; omega)) (rng_sm (by show _ ≤ (1 : Int); omega) (by show (1 : Int) ≤ _; omega))) (by simp) (Own.nil _ _) (by omega) ?_
        intro v2 w2 hO2 hg2
        go_wp2
        exact hK _ [] _ hg2 (fun _ h => hO2.ext h) (Own.nil _ _)
      · intro oo hoo U u F hG hφ hap
        cases hoo
        simp only [putAll_toArray, put_toArray, List.map_cons, List.map_nil, setL, List.set_cons_succ, List.set_cons_zero, Bd.d, List.getD_cons_succ, List.getD_cons_zero]
        have d0 := (hφ 0 (by omega)).1
        have d1 := (hφ 1 (by omega)).1
        have d2 := (hφ 2 (by omega)).1
        have d3 := (hφ 3 (by omega)).1
        have d4 := (hφ 4 (by omega)).1
        have d5 := (hφ 5 (by omega)).1
        have d6 := (hφ 6 (by omega)).1
        have d7 := (hφ 7 (by omega)).1
        have d8 := (hφ 8 (by omega)).1
        have o8 := (hφ 8 (by omega)).2
        have d9 := (hφ 9 (by omega)).1
        have o9 := (hφ 9 (by omega)).2
        have d10 := (hφ 10 (by omega)).1
        simp only [Bd.u, List.getD_cons_succ, List.getD_cons_zero, List.map_cons, List.map_nil] at d0 d1 d2 d3 d4 d5 d6 d7 d8 d9 d10
        try simp only [d0, d1, d2, d3, d4, d5, d6, d7, d10]
        obtain ⟨p9, m9, q9, g9⟩ := d9.sh
        rw [g9] at d9
        simp only [g9]
        have kB2 := KB.out.grown hG (fun e => by have := hno _ e; omega)
        have t2 := kB2.cell (j := 2) rfl
        have tf := kB2.fz
        have tl := kB2.lt
        have HM2 := Lib.hid (HMW.out.trF (Mw.ofGrown (F := (Value.slice ao no co).ownBlock.toList) hG (fun k hk => Option.mem_toList.2 hk)) (fun x hx => .inr (hno x (Option.mem_toList.1 hx))))
        have HK2 := Lib.hid kB2
        have HO9 := Lib.hid d9
        clear d0 d1 d2 d3 d4 d5 d6 d7 d8 d9 d10 hφ hap hG g9 kB2
        go_wp2
        go_roundw
        case rel => exact ⟨k + 1, _, _, _, by omega, by go_num, by have := HK2.out.set 2 (.slice p9 m9 q9); simpa using this, by rw [HNX.out]; exact HO9.out.set (p := ⟨w6.heap.size, 2, none⟩) (by show w6.heap.size < W.heap.size; omega) _, HM2.out.set (.inl (by simp)) _⟩
        case measure => simp [intOf]; omega
    · obtain rfl : k = s.Slots.length := by omega
      rw [List.take_length] at HO
      obtain ⟨_, _, hno, _⟩ := HO.out.form
      cases hno
      have g0 := KB.out.cell (j := 0) rfl
      have g1 := KB.out.cell (j := 1) rfl
      have HV := Lib.hid ((HP6.out.same (w' := wr) (fun q h => (HMW.out.2.2 q (by omega) (by simp; omega)).trans (HE7.out.block q h))).withSlots HO.out.rs)
      have HSR := Lib.hid (HS.out.tr (HMW.out.ext HE7.out (by simp)))
      obtain ⟨FL, hFL⟩ : ∃ FL, M.faults { s with Slots := M.dbl s.Slots } = FL := ⟨_, rfl⟩
      rw [hFL] at htg
      clear HMW HO KA7 KB7 HP HP6 HSL
      obtain ⟨wp, rfl⟩ : ∃ wp, wp = wr := ⟨_, rfl⟩
      go_upto_block 2 with (go_at_call 18; refine (impl_SetupFaults _ { s with Slots := M.dbl s.Slots } _ HV.out).mono ?_; rintro e w8 ⟨v8, rfl, ho, he⟩; rw [hFL] at ho; obtain ⟨p8, q8, rfl, _⟩ := ho.rs.form; have HO8 := Lib.hid ho.rs; have HE8 := Lib.hid he; clear ho he)
      go_wp2_with fail
      go_loopw [7] (fun i wr => ∃ k : Nat, k ≤ FL.length ∧ i = .int .i64 k ∧ Ext w8 wr) (fun i _ => FL.length - (intOf i).toNat)
      case atStart => exact ⟨0, Nat.zero_le _, rfl, Ext.refl _⟩
      case round =>
        obtain ⟨k, hk, rfl, hq⟩ := hrel
        have HQ := Lib.hid hq
        clear hq
        by_cases hkt : k < FL.length
        · obtain ⟨bL, oL, z, rfl, ltL, hz, hcz, _⟩ := HO8.out.atInt k hkt
          have ez := (cell_ext HQ.out ltL).trans hcz
          have hz3 : (z == 3) = false := by have := htg.out z (List.mem_of_getElem? hz.out); simpa using this
          go_wp2
          go_roundw
          case rel => exact ⟨k + 1, by omega, by go_num, HQ.out⟩
          case measure => simp [intOf]; omega
        · obtain rfl : k = FL.length := by omega
          go_wp2_with (go_at_call 13; refine (law_alive _).mono ?_; rintro e w9 ⟨rfl, he⟩; have HE9 := Lib.hid he; clear he)
          go_ret
          exact ⟨rfl, (HSR.out.tr HE8.out).tr (HQ.out.tr HE9.out)⟩
end Sk

