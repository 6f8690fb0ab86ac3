/- Contracts of functions of the given program, and lemmas for them: each theorem states the condition under which it holds. -/
import Derived.Test.YtobfbjgflnhjpaaGreatChecked
import Derived.Deep.CutBlock
import Derived.Deep.CutRange
import Derived.Test.YtobfbjgflnhjpaaGreatNewC
import Derived.Test.YtobfbjgflnhjpaaGreatCopyM
import Derived.Test.YtobfbjgflnhjpaaGreatTo
namespace Sk
open Go Go.Proofs Go.RowKit
set_option maxHeartbeats 4000000
set_option maxRecDepth 100000
set_option linter.unusedVariables false
set_option linter.unusedSimpArgs false
theorem Ov.mz (L : Nat) (w : World) : Ov L w (.agg #[.slice none 0 0, .slice none 0 0, .slice none 0 0, .slice none 0 0, .slice none 0 0, .slice none 0 0, .int .i64 0]) M.mz := ⟨_, [], rfl, GT.zero (α := Machine) w, Own.nil _ _⟩
theorem impl_NewMachine (v vl : Value) (s : Setup) (ps : List (List Order)) (w : World) (h : Rv w v s) (hl : Rs w vl ps) :
    Calls Tryz.prog 17 #[v, vl] w fun e w' => ∃ v', e = .returned v' ∧ Ov w.heap.size w' v' (M.newMachine s ps) ∧ Ext w w' := by
  have H := Lib.hid h
  have HL := Lib.hid hl
  obtain ⟨a0, c0, a1, c1, a2, c2, rfl, h0, hl0, h1, hl1, h2, hl2⟩ := h.openSetup
  obtain ⟨al, cl, rfl, hll⟩ := hl.form
  clear h hl
  go_enter Tryz.func17, Tryz.ntmps17
  go_upto_region 1 with (fail)
  refine abs_world (fun W => Ext w W ∧ Bk W w.heap.size [.slice a0 s.Parts.length c0, .slice a1 s.Channels.length c1, .slice a2 s.Slots.length c2] 47 ∧ Bk W (w.heap.size + 1) [.slice none 0 0, .slice none 0 0, .slice none 0 0, .slice none 0 0, .slice none 0 0, .slice none 0 0, .int .i64 0] 52) ⟨((Ext.refl _).alloc _).alloc _, (Bk.new _ _ _).ext ((Ext.refl _).alloc _), Bk.new1 _ _ _ _⟩ ?_
  rintro W ⟨e1, kA, kB⟩
  have HE0 := Lib.hid e1
  have ltA := kA.lt
  have ltB := kB.lt
  have d0 := kA.cell (j := 0) rfl
  have d1 := kA.cell (j := 1) rfl
  have d2 := kA.cell (j := 2) rfl
  have KA := Lib.hid kA
  have KB := Lib.hid kB
  clear e1 kA kB
  cases g : M.pg s ps
  · go_wp2_with (go_at_call 59; refine (impl_programmed _ _ s ps _ (H.out.ext HE0.out) (HL.out.ext HE0.out)).mono ?_; rintro e w1 ⟨rfl, he⟩; rw [g]; have HE1 := Lib.hid (HE0.out.tr he); have KBx := KB.out.ext he; have z0 := KBx.cell (j := 0) rfl; have z1 := KBx.cell (j := 1) rfl; have z2 := KBx.cell (j := 2) rfl; have z3 := KBx.cell (j := 3) rfl; have z4 := KBx.cell (j := 4) rfl; have z5 := KBx.cell (j := 5) rfl; have z6 := KBx.cell (j := 6) rfl; have zf := KBx.fz; have ltZ := KBx.lt; clear KBx; clear he)
    refine bodyPost_ret (v := .agg #[.slice none 0 0, .slice none 0 0, .slice none 0 0, .slice none 0 0, .slice none 0 0, .slice none 0 0, .int .i64 0]) (by simp [results, Tryz.results17, go_sem, z0, z1, z2, z3, z4, z5, z6]) rfl ⟨_, rfl, by rw [M.newMachine_f g]; exact Ov.mz _ _, (((((((HE1.out).set (by simp) _).set (by simp) _).set (by simp) _).set (by simp) _).set (by simp) _).set (by simp) _).set (by simp) _⟩
  have hpg := M.pg_iff.1 g
  have hp5 := M.setv_parts hpg.set
  have hc8 := M.setv_chans hpg.set
  go_upto_region 3 with (go_at_call 59; refine (impl_programmed _ _ s ps _ (H.out.ext HE0.out) (HL.out.ext HE0.out)).mono ?_; rintro e w0 ⟨rfl, he⟩; rw [g]; have E := Lib.hid (HE0.out.tr he); replace KA := Lib.hid (KA.out.ext he); replace KB := Lib.hid (KB.out.ext he); clear he)
  replace ltA := KA.out.lt
  replace ltB := KB.out.lt
  have f0 := KA.out.cell (j := 0) rfl
  have f1 := KA.out.cell (j := 1) rfl
  have f2 := KA.out.cell (j := 2) rfl
  have hmk : ∀ u : World, (Instr.makeSlice 50 (.int .i64 s.Channels.length) (.int .i64 s.Channels.length)).run Tryz.prog u =
      .ok (.slice (some ⟨u.heap.size, 0, none⟩) s.Channels.length s.Channels.length) (u.alloc (.cells (madeCells #[.slice none 0 0] (s.Channels.length * 1)) 130)) := fun u => by
    obtain ⟨i0, hi, hz0, hz1, hz2⟩ := info_parts info_Hold
    have h := run_make (P := Tryz.prog) u 50 130 i0 (.agg #[.slice none 0 0]) Tryz.underlying50 hi hz0 .i64 .i64 s.Channels.length s.Channels.length (by omega) (Int.le_refl _) (by rw [hz2]; omega) (by omega)
    simpa [hz1, Value.cells] using h
  have HO : ∀ u : World, Os u.heap.size (u.alloc (.cells (madeCells #[.slice none 0 0] (s.Channels.length * 1)) 130)) (.slice (some ⟨u.heap.size, 0, none⟩) s.Channels.length s.Channels.length) (List.replicate s.Channels.length (⟨[]⟩ : Hold)) := fun u => Os.made (α := Hold) u s.Channels.length 130 #[.slice none 0 0] ⟨[]⟩ rfl rfl (by omega)
  refine wp_region_tab rfl 8 [(13, [13]), (14, [14]), (15, [15]), (16, [16]), (17, [17]), (18, [18]), (19, [19, 18]), (5, [5])]
    (fun i vs u F => match i, vs with
      | 0, [y] => y = .agg #[.slice a0 s.Parts.length c0, .slice a1 s.Channels.length c1, .slice a2 s.Slots.length c2]
      | 1, [y] => y = .slice al ps.length cl
      | 2, [y] => y = .pointer (some ⟨w.heap.size, 1, none⟩)
      | 3, [y] => y = .slice a1 s.Channels.length c1
      | 4, [y] => y = .int .i64 s.Channels.length
      | 5, [y] => ∃ b, y = .slice (some ⟨b, 0, none⟩) s.Channels.length s.Channels.length ∧ Sl u y (List.replicate s.Channels.length (⟨[]⟩ : Hold)) F
      | 6, [y, z] => y = .agg #[.slice a0 s.Parts.length c0, .slice a1 s.Channels.length c1, .slice a2 s.Slots.length c2, .slice al ps.length cl, .slice none 0 0, z, .int .i64 0]
      | 7, [y] => ∃ B, y = .pointer (some ⟨B, 0, none⟩) ∧ F = [B] ∧ Bk u B [.slice none 0 0, .slice none 0 0, .slice none 0 0, .slice none 0 0, .slice none 0 0, .slice none 0 0, .int .i64 0] 52
      | _, _ => False) (by decide +kernel) ?_ ?_
  · intro i hi o ho U u F hE hd hap
    have g0 := (cell_ext hE ltA).trans f0
    have g1 := (cell_ext hE ltA).trans f1
    have g2 := (cell_ext hE ltA).trans f2
    rcases (by omega : i = 0 ∨ i = 1 ∨ i = 2 ∨ i = 3 ∨ i = 4 ∨ i = 5 ∨ i = 6 ∨ i = 7) with rfl | rfl | rfl | rfl | rfl | rfl | rfl | rfl
    · cases ho
      simp only [putAll_toArray, put_toArray, List.map_cons, List.map_nil, setL, List.set_cons_succ, List.set_cons_zero, Bd.d, List.getD_cons_succ, List.getD_cons_zero]
      intro K hK
      go_wp2
      exact hK _ [] _ (Ext.refl u) (fun _ _ => rfl) (Own.nil _ _)
    · cases ho
      simp only [putAll_toArray, put_toArray, List.map_cons, List.map_nil, setL, List.set_cons_succ, List.set_cons_zero, Bd.d, List.getD_cons_succ, List.getD_cons_zero]
      intro K hK
      go_wp2
      exact hK _ [] _ (Ext.refl u) (fun _ _ => rfl) (Own.nil _ _)
    · cases ho
      simp only [putAll_toArray, put_toArray, List.map_cons, List.map_nil, setL, List.set_cons_succ, List.set_cons_zero, Bd.d, List.getD_cons_succ, List.getD_cons_zero]
      intro K hK
      go_wp2
      exact hK _ [] _ (Ext.refl u) (fun _ _ => rfl) (Own.nil _ _)
    · cases ho
      simp only [putAll_toArray, put_toArray, List.map_cons, List.map_nil, setL, List.set_cons_succ, List.set_cons_zero, Bd.d, List.getD_cons_succ, List.getD_cons_zero]
      have d2 := (hd 2 (by decide +kernel)).1
      simp only [Bd.u, List.getD_cons_succ, List.getD_cons_zero, List.map_cons, List.map_nil] at d2
      try simp only [d2]
      clear d2
      intro K hK
      go_wp2
      exact hK _ [] _ (Ext.refl u) (fun _ _ => rfl) (Own.nil _ _)
    · cases ho
      simp only [putAll_toArray, put_toArray, List.map_cons, List.map_nil, setL, List.set_cons_succ, List.set_cons_zero, Bd.d, List.getD_cons_succ, List.getD_cons_zero]
      have d2 := (hd 2 (by decide +kernel)).1
      have d3 := (hd 3 (by decide +kernel)).1
      simp only [Bd.u, List.getD_cons_succ, List.getD_cons_zero, List.map_cons, List.map_nil] at d2 d3
      try simp only [d2, d3]
      clear d2 d3
      intro K hK
      go_wp2
      exact hK _ [] _ (Ext.refl u) (fun _ _ => rfl) (Own.nil _ _)
    · cases ho
      simp only [putAll_toArray, put_toArray, List.map_cons, List.map_nil, setL, List.set_cons_succ, List.set_cons_zero, Bd.d, List.getD_cons_succ, List.getD_cons_zero]
      have d2 := (hd 2 (by decide +kernel)).1
      have d3 := (hd 3 (by decide +kernel)).1
      have d4 := (hd 4 (by decide +kernel)).1
      simp only [Bd.u, List.getD_cons_succ, List.getD_cons_zero, List.map_cons, List.map_nil] at d2 d3 d4
      try simp only [d2, d3, d4]
      intro K hK
      go_wp2
      obtain ⟨F2, s2, ow2⟩ := HO u
      rw [Nat.mul_one] at s2 ow2
      exact hK _ F2 _ ((Ext.refl u).alloc _) (fun _ h => ⟨_, rfl, s2.ext h⟩) ow2
    · cases ho
      simp only [putAll_toArray, put_toArray, List.map_cons, List.map_nil, setL, List.set_cons_succ, List.set_cons_zero, Bd.d, List.getD_cons_succ, List.getD_cons_zero]
      have d0 := (hd 0 (by decide +kernel)).1
      have d1 := (hd 1 (by decide +kernel)).1
      have d2 := (hd 2 (by decide +kernel)).1
      have d3 := (hd 3 (by decide +kernel)).1
      have d4 := (hd 4 (by decide +kernel)).1
      have d5 := (hd 5 (by decide +kernel)).1
      have o5 := (hd 5 (by decide +kernel)).2
      simp only [Bd.u, List.getD_cons_succ, List.getD_cons_zero, List.map_cons, List.map_nil] at d0 d1 d2 d3 d4 d5
      try simp only [d0, d1, d2, d3, d4]
      obtain ⟨b5, e5, _⟩ := d5
      simp only [e5]
      intro K hK
      go_wp2
      exact hK _ [] _ (Ext.refl u) (fun _ _ => by show Value.agg _ = Value.agg #[_, _, _, _, _, U 18, _]; rw [e5]) (Own.nil _ _)
    · cases ho
      simp only [putAll_toArray, put_toArray, List.map_cons, List.map_nil, setL, List.set_cons_succ, List.set_cons_zero, Bd.d, List.getD_cons_succ, List.getD_cons_zero]
      intro K hK
      go_wp2
      have b1 := Bk.new u [.slice none 0 0, .slice none 0 0, .slice none 0 0, .slice none 0 0, .slice none 0 0, .slice none 0 0, .int .i64 0] 52
      exact hK _ [u.heap.size] _ ((Ext.refl u).alloc _) (fun _ h => ⟨_, rfl, rfl, b1.ext h⟩) (b1.own (Nat.le_refl _))
  intro o ho U u F hE hφ hap
  cases ho
  simp only [putAll_toArray, put_toArray, List.map_cons, List.map_nil, setL, List.set_cons_succ, List.set_cons_zero, Bd.d, List.getD_cons_succ, List.getD_cons_zero]
  have d0 := (hφ 0 (by omega)).1
  have d1 := (hφ 1 (by omega)).1
  have d2 := (hφ 2 (by omega)).1
  have d3 := (hφ 3 (by omega)).1
  have d4 := (hφ 4 (by omega)).1
  have d5 := (hφ 5 (by omega)).1
  have o5 := (hφ 5 (by omega)).2
  have d6 := (hφ 6 (by omega)).1
  have d7 := (hφ 7 (by omega)).1
  have o7 := (hφ 7 (by omega)).2
  simp only [Bd.u, List.getD_cons_succ, List.getD_cons_zero, List.map_cons, List.map_nil] at d0 d1 d2 d3 d4 d5 d6 d7
  try simp only [d0, d1, d2, d3, d4, d6]
  obtain ⟨B, d7, k7, b7⟩ := d7
  obtain ⟨hb, e5, sH⟩ := d5
  have aHB := hap 5 7 (by omega) (by omega) (by omega)
  generalize F 5 = FH at *
  rw [k7] at o7 aHB
  rw [e5] at sH d6
  clear k7 hap hφ
  simp only [d7, d6]
  have b60 := b7.cell (j := 0) rfl
  have b61 := b7.cell (j := 1) rfl
  have b62 := b7.cell (j := 2) rfl
  have b63 := b7.cell (j := 3) rfl
  have b64 := b7.cell (j := 4) rfl
  have b65 := b7.cell (j := 5) rfl
  have b66 := b7.cell (j := 6) rfl
  have b6f := b7.fz
  have lB : w0.heap.size ≤ B := (o7.2 B (by simp)).1
  have ltB2 := b7.lt
  have nH : B ∉ FH := aHB.one
  go_upto_region 4 with (fail)
  refine abs_world (fun W => Ext w W ∧ B < W.heap.size ∧ w0.heap.size ≤ W.heap.size ∧ Bk W B [.slice a0 s.Parts.length c0, .slice a1 s.Channels.length c1, .slice a2 s.Slots.length c2, .slice al ps.length cl, .slice none 0 0, .slice (some ⟨hb, 0, none⟩) s.Channels.length s.Channels.length, .int .i64 0] 52 ∧ Sl W (.slice (some ⟨hb, 0, none⟩) s.Channels.length s.Channels.length) (List.replicate s.Channels.length (⟨[]⟩ : Hold)) FH ∧ Bk W w.heap.size [.slice a0 s.Parts.length c0, .slice a1 s.Channels.length c1, .slice a2 s.Slots.length c2] 47 ∧ Bk W (w.heap.size + 1) [.slice none 0 0, .slice none 0 0, .slice none 0 0, .slice none 0 0, .slice none 0 0, .slice none 0 0, .int .i64 0] 52) ?_ ?_
  · exact ⟨(((((((E.out.tr hE).set (by show _ ≤ B; have := E.out.sz; omega) _).set (by show _ ≤ B; have := E.out.sz; omega) _).set (by show _ ≤ B; have := E.out.sz; omega) _).set (by show _ ≤ B; have := E.out.sz; omega) _).set (by show _ ≤ B; have := E.out.sz; omega) _).set (by show _ ≤ B; have := E.out.sz; omega) _).set (by show _ ≤ B; have := E.out.sz; omega) _, by simpa using ltB2, by simp; omega, b7.puts [.slice a0 s.Parts.length c0, .slice a1 s.Channels.length c1, .slice a2 s.Slots.length c2, .slice al ps.length cl, .slice none 0 0, .slice (some ⟨hb, 0, none⟩) s.Channels.length s.Channels.length, .int .i64 0] rfl, Sl.puts (c := B) (o := 0) (ds := [.slice a0 s.Parts.length c0, .slice a1 s.Channels.length c1, .slice a2 s.Slots.length c2, .slice al ps.length cl, .slice none 0 0, .slice (some ⟨hb, 0, none⟩) s.Channels.length s.Channels.length, .int .i64 0]) sH nH, Bk.puts_ne (c := B) (o := 0) (ds := [.slice a0 s.Parts.length c0, .slice a1 s.Channels.length c1, .slice a2 s.Slots.length c2, .slice al ps.length cl, .slice none 0 0, .slice (some ⟨hb, 0, none⟩) s.Channels.length s.Channels.length, .int .i64 0]) (KA.out.ext hE) (by omega), Bk.puts_ne (c := B) (o := 0) (ds := [.slice a0 s.Parts.length c0, .slice a1 s.Channels.length c1, .slice a2 s.Slots.length c2, .slice al ps.length cl, .slice none 0 0, .slice (some ⟨hb, 0, none⟩) s.Channels.length s.Channels.length, .int .i64 0]) (KB.out.ext hE) (by omega)⟩
  rintro W3 ⟨E3, lt3, lW3, BB3, SH3, KA3, KB3⟩
  replace BB3 := Lib.hid BB3; replace KB3 := Lib.hid KB3; replace SH3 := Lib.hid SH3; replace E3 := Lib.hid E3
  have q0 := KA3.cell (j := 0) rfl
  have q1 := KA3.cell (j := 1) rfl
  have q2 := KA3.cell (j := 2) rfl
  have ltA3 := KA3.lt
  replace KA3 := Lib.hid KA3
  clear hE b7 o7 aHB f0 f1 f2 KA KB E b60 b61 b62 b63 b64 b65 b66 b6f sH e5 d0 d1 d2 d3 d4 d6 d7 o5 ltB2 HE0 hmk HO
  go_wp2
  go_loopw [23] (fun i wr => ∃ (k : Nat) (g : Option Addr) (s4 r4 : Nat), k ≤ s.Parts.length ∧ i = .int .i64 k ∧ Chg B 4 1 [] W3 wr ∧ wr.cell? ⟨B, 4, none⟩ = some (.slice g s4 r4) ∧ Oo 100 W3.heap.size wr (.slice g s4 r4) ((s.Parts.take k).map fun p => M.newCore p.Cells)) (fun i _ => s.Parts.length - (intOf i).toNat)
  case atStart => exact ⟨0, _, _, _, Nat.zero_le _, rfl, Chg.refl _ _ _ _ _, BB3.out.cell (j := 4) rfl, Oo.nil _ _ _⟩
  case round =>
    obtain ⟨k, g, s4, r4, hk, rfl, hch, hc0, ho⟩ := hrel
    have lWr : W3.heap.size ≤ wr.heap.size := hch.sz
    have EWr := hch.ext E3.out (by omega) (by simp)
    have KAr := hch.bk KA3.out (by omega) (by simp)
    have a10 := KAr.cell (j := 0) rfl
    have ltA2 := KAr.lt
    have hf0 : Fz wr B := hch.2.2.2.2 B ⟨_, _, BB3.out⟩
    by_cases hkt : k < s.Parts.length
    · obtain ⟨b, o, x, wa, wc, rfl, hb2, hx, hp0, hp1, hr1, hs0, hl0, hv⟩ := h0.out.atPart k hkt
      have hp0' := (cell_ext EWr hb2).trans hp0
      have hp1' := (cell_ext EWr hb2).trans hp1
      go_upto_region 7 with (fail)
      refine abs_world (fun W2 => Ext wr W2 ∧ Bk W2 wr.heap.size [.slice wa x.Windows.length wc, .int .i64 x.Cells] 104) ⟨(Ext.refl _).alloc _, Bk.new _ _ _⟩ ?_
      rintro W2 ⟨EX, BX⟩
      have x1 := BX.cell (j := 1) rfl
      have ltX := BX.lt
      clear BX
      have hoX : ∀ j, (Value.slice g s4 r4).ownBlock = some j → j < wr.heap.size := ho.lt
      have HC := Lib.hid (hch.tr (Chg.ofExt EX (by omega)))
      have HO := Lib.hid (ho.ext EX)
      have c4 := (cell_ext EX (by omega : B < wr.heap.size)).trans hc0
      have EW := Lib.hid (EWr.tr EX)
      have KA2 := KAr.ext EX
      have n0 := KA2.cell (j := 0) rfl
      have ltA4 := KA2.lt
      have hf2 := hf0.ext EX
      have lW2 : W3.heap.size ≤ W2.heap.size := Nat.le_trans lWr EX.sz
      clear hch ho hc0 EWr KAr a10 ltA2 hf0 hp0' hp1' KA2
      obtain ⟨kc, hcc⟩ : ∃ kc, M.newCore x.Cells = kc := ⟨_, rfl⟩
      have hr0 : rng kc.At := by
        rw [← hcc]; unfold M.newCore; split <;> exact ⟨by show (-9223372036854775808 : Int) ≤ 0; decide, by show (0 : Int) ≤ 9223372036854775807; decide⟩
      have hst : (s.Parts.take (k + 1)).map (fun p => M.newCore p.Cells) = (s.Parts.take k).map (fun p => M.newCore p.Cells) ++ [kc] := by
        rw [take_snoc hx.out, List.map_append]; simp [hcc]
      have hWo : ∀ j, (Value.slice g s4 r4).ownBlock = some j → W3.heap.size ≤ j := HO.out.own
      refine wp_region_grow rfl 8 [(27, [27]), (28, [28]), (29, [29]), (30, [30]), (31, [31]), (32, [32, 31]), (33, [33]), (34, [34])]
        (fun i vs u F => match i, vs with
          | 0, [y] => y = .pointer (some ⟨B, 4, none⟩)
          | 1, [y] => y = .slice g s4 r4
          | 2, [y] => y = .pointer (some ⟨wr.heap.size, 1, none⟩)
          | 3, [y] => y = .int .i64 x.Cells
          | 4, [y] => ∃ p q, y = .agg #[.slice p kc.Cells.length q, .int .i64 kc.At, .bool kc.Stopped] ∧ Sl u (.slice p kc.Cells.length q) kc.Cells F
          | 5, [y, z] => ∃ b0 cs, y = .slice (some ⟨b0, 0, none⟩) 1 1 ∧ z = .agg cs.toArray ∧ Bk u b0 cs 100
          | 6, [y] => Oo 100 W3.heap.size u y ((s.Parts.take k).map (fun p => M.newCore p.Cells) ++ [kc])
          | 7, [y] => y = .pointer (some ⟨B, 4, none⟩)
          | _, _ => False) 6 (Value.slice g s4 r4).ownBlock HO.out.lt (by decide +kernel) ?_ ?_ ?_
      · intro i hi hne oo ho U u F hG hd hap
        have hE := Ext.grown EW.out hG (fun j hj => by have := hWo j hj; omega)
        have e0 := grown_cell hG c4 (by omega) (fun j hj => by have := hWo j hj; omega)
        have e1 := grown_cell hG n0 (by omega) (fun j hj => by have := hWo j hj; omega)
        have e2 := (cell_ext hE hb2).trans hp0
        have e3 := (cell_ext hE hb2).trans hp1
        have e5 := grown_cell hG x1 (by omega) (fun j hj e => by subst e; exact absurd (hoX _ hj) (by omega))
        rcases (by omega : i = 0 ∨ i = 1 ∨ i = 2 ∨ i = 3 ∨ i = 4 ∨ i = 5 ∨ i = 6 ∨ i = 7) with rfl | rfl | rfl | rfl | rfl | rfl | rfl | rfl
        · cases ho
          simp only [putAll_toArray, put_toArray, List.map_cons, List.map_nil, setL, List.set_cons_succ, List.set_cons_zero, Bd.d, List.getD_cons_succ, List.getD_cons_zero]
          intro K hK
          go_wp2
          exact hK _ [] _ (Ext.refl u) (fun _ _ => rfl) (Own.nil _ _)
        · cases ho
          simp only [putAll_toArray, put_toArray, List.map_cons, List.map_nil, setL, List.set_cons_succ, List.set_cons_zero, Bd.d, List.getD_cons_succ, List.getD_cons_zero]
          have d0 := (hd 0 (by decide +kernel)).1
          simp only [Bd.u, List.getD_cons_succ, List.getD_cons_zero, List.map_cons, List.map_nil] at d0
          try simp only [d0]
          clear d0
          intro K hK
          go_wp2
          exact hK _ [] _ (Ext.refl u) (fun _ _ => rfl) (Own.nil _ _)
        · cases ho
          simp only [putAll_toArray, put_toArray, List.map_cons, List.map_nil, setL, List.set_cons_succ, List.set_cons_zero, Bd.d, List.getD_cons_succ, List.getD_cons_zero]
          intro K hK
          go_wp2
          exact hK _ [] _ (Ext.refl u) (fun _ _ => rfl) (Own.nil _ _)
        · cases ho
          simp only [putAll_toArray, put_toArray, List.map_cons, List.map_nil, setL, List.set_cons_succ, List.set_cons_zero, Bd.d, List.getD_cons_succ, List.getD_cons_zero]
          have d2 := (hd 2 (by decide +kernel)).1
          simp only [Bd.u, List.getD_cons_succ, List.getD_cons_zero, List.map_cons, List.map_nil] at d2
          try simp only [d2]
          clear d2
          intro K hK
          go_wp2
          exact hK _ [] _ (Ext.refl u) (fun _ _ => rfl) (Own.nil _ _)
        · cases ho
          simp only [putAll_toArray, put_toArray, List.map_cons, List.map_nil, setL, List.set_cons_succ, List.set_cons_zero, Bd.d, List.getD_cons_succ, List.getD_cons_zero]
          have d2 := (hd 2 (by decide +kernel)).1
          have d3 := (hd 3 (by decide +kernel)).1
          simp only [Bd.u, List.getD_cons_succ, List.getD_cons_zero, List.map_cons, List.map_nil] at d2 d3
          try simp only [d2, d3]
          intro K hK
          go_wp2_with (go_at_call 60; refine (impl_NewCore x.Cells _).mono ?_; rintro e w' ⟨v', rfl, hov, ex1⟩; rw [hcc] at hov; obtain ⟨cs, F', rfl, ⟨v0, rfl, s1, _⟩, ow1⟩ := hov; obtain ⟨p9, q9, rfl, _⟩ := id s1)
          exact hK _ F' _ ex1 (fun _ h => ⟨_, _, rfl, s1.grown h fun j hj e => by have := (ow1.2 j hj).1; have := HO.out.lt j e; have := hG.size; omega⟩) ow1
        · cases ho
          simp only [putAll_toArray, put_toArray, List.map_cons, List.map_nil, setL, List.set_cons_succ, List.set_cons_zero, Bd.d, List.getD_cons_succ, List.getD_cons_zero]
          have d2 := (hd 2 (by decide +kernel)).1
          have d3 := (hd 3 (by decide +kernel)).1
          have d4 := (hd 4 (by decide +kernel)).1
          have o4 := (hd 4 (by decide +kernel)).2
          simp only [Bd.u, List.getD_cons_succ, List.getD_cons_zero, List.map_cons, List.map_nil] at d2 d3 d4
          try simp only [d2, d3]
          obtain ⟨p, q, e9, _⟩ := d4
          simp only [e9]
          intro K hK
          go_wp2
          have b1 := Bk.new u [.slice p kc.Cells.length q, .int .i64 kc.At, .bool kc.Stopped] 100
          exact hK _ [] _ ((Ext.refl u).alloc _) (fun _ h => ⟨_, _, rfl, e9, b1.grown h fun e => by have := HO.out.lt _ e; have := hG.size; omega⟩) (Own.nil _ _)
        · exact absurd rfl hne
        · cases ho
          simp only [putAll_toArray, put_toArray, List.map_cons, List.map_nil, setL, List.set_cons_succ, List.set_cons_zero, Bd.d, List.getD_cons_succ, List.getD_cons_zero]
          have d0 := (hd 0 (by decide +kernel)).1
          have d1 := (hd 1 (by decide +kernel)).1
          have d2 := (hd 2 (by decide +kernel)).1
          have d3 := (hd 3 (by decide +kernel)).1
          have d4 := (hd 4 (by decide +kernel)).1
          have d5 := (hd 5 (by decide +kernel)).1
          have d6 := (hd 6 (by decide +kernel)).1
          simp only [Bd.u, List.getD_cons_succ, List.getD_cons_zero, List.map_cons, List.map_nil] at d0 d1 d2 d3 d4 d5 d6
          clear d4 d5 d6
          try simp only [d0, d1, d2, d3]
          clear d0 d1 d2 d3
          intro K hK
          go_wp2
          exact hK _ [] _ (Ext.refl u) (fun _ _ => rfl) (Own.nil _ _)
      · intro _ oo ho U u F hE hd hap
        cases ho
        simp only [putAll_toArray, put_toArray, List.map_cons, List.map_nil, setL, List.set_cons_succ, List.set_cons_zero, Bd.d, List.getD_cons_succ, List.getD_cons_zero]
        have d0 := (hd 0 (by decide +kernel)).1
        have d1 := (hd 1 (by decide +kernel)).1
        have d2 := (hd 2 (by decide +kernel)).1
        have d3 := (hd 3 (by decide +kernel)).1
        have d4 := (hd 4 (by decide +kernel)).1
        have o4 := (hd 4 (by decide +kernel)).2
        have d5 := (hd 5 (by decide +kernel)).1
        have o5 := (hd 5 (by decide +kernel)).2
        simp only [Bd.u, List.getD_cons_succ, List.getD_cons_zero, List.map_cons, List.map_nil] at d0 d1 d2 d3 d4 d5
        try simp only [d0, d1, d2, d3]
        obtain ⟨b0, cs, d5, z9, b9⟩ := d5
        obtain ⟨p, q, e9, s9⟩ := d4
        rw [e9] at z9
        obtain rfl : cs = [.slice p kc.Cells.length q, .int .i64 kc.At, .bool kc.Stopped] := (congrArg Array.toList (agg_inj z9)).symm
        simp only [d5]
        intro K hK
        refine wpl_appO (u := W2) (α := Core) rfl _ _ 49 rfl 100 Tryz.underlying49 elCore (v := .slice g s4 r4) (ys := [kc]) rfl HO.out hE lW2 rfl rfl (Row.one ⟨_, rfl, s9, hr0⟩ (fun j y hj => by rw [Nat.zero_add]; exact b9.cell hj)) (by simp) o4 (by simp; omega) ?_
        intro v2 w2 hO2 hg2
        go_wp2
        exact hK _ [] _ hg2 (fun _ h => hO2.ext h) (Own.nil _ _)
      · intro oo ho U u F hG hφ hap
        cases ho
        simp only [putAll_toArray, put_toArray, List.map_cons, List.map_nil, setL, List.set_cons_succ, List.set_cons_zero, Bd.d, List.getD_cons_succ, List.getD_cons_zero]
        have d0 := (hφ 0 (by omega)).1
        have d1 := (hφ 1 (by omega)).1
        have d2 := (hφ 2 (by omega)).1
        have d3 := (hφ 3 (by omega)).1
        have d4 := (hφ 4 (by omega)).1
        have o4 := (hφ 4 (by omega)).2
        have d5 := (hφ 5 (by omega)).1
        have o5 := (hφ 5 (by omega)).2
        have d6 := (hφ 6 (by omega)).1
        have o6 := (hφ 6 (by omega)).2
        have d7 := (hφ 7 (by omega)).1
        simp only [Bd.u, List.getD_cons_succ, List.getD_cons_zero, List.map_cons, List.map_nil] at d0 d1 d2 d3 d4 d5 d6 d7
        try simp only [d0, d1, d2, d3, d7]
        clear d0 d1 d2 d3 d4 d5 d7 hap hφ
        have e0 := grown_cell hG c4 (by omega) (fun j hj => by have := hWo j hj; omega)
        have f0 : u.frozen? ⟨B, 4, none⟩ = false := (World.frozen?_of_block (hG.block B (by omega) (fun e => by have := hWo B e.symm; omega))).trans (by obtain ⟨_, _, hz⟩ := hf2; exact hz.fz 4)
        obtain ⟨p9, n9, q9, e9⟩ := d6.sh
        simp only [e9] at d6 ⊢
        have hCu := HC.out.grown hG hWo lt3
        go_wp2
        go_roundw
        case rel => exact ⟨k + 1, _, _, _, by omega, by go_num, hCu.set ⟨by omega, by omega⟩ _, cell_set e0, by rw [hst]; exact d6.set lt3 _⟩
        case measure => simp [intOf]; omega
    · obtain rfl : k = s.Parts.length := by omega
      rw [List.take_of_length_le (Nat.le_refl _)] at ho
      have HC := Lib.hid hch
      obtain ⟨T8, BZ⟩ := hch.one BB3.out (by simp) hc0
      have SHx := Lib.hid (hch.sl SH3.out nH (fun _ _ h => by cases h))
      have KBr := Lib.hid (hch.bk KB3.out (by omega) (by simp))
      have EX := Lib.hid EWr
      have y0 := BZ.cell (j := 0) rfl
      have y1 := BZ.cell (j := 1) rfl
      have y2 := BZ.cell (j := 2) rfl
      have y3 := BZ.cell (j := 3) rfl
      have y4 := BZ.cell (j := 4) rfl
      have y5 := BZ.cell (j := 5) rfl
      have y6 := BZ.cell (j := 6) rfl
      have ltBz := BZ.lt
      have RV : Hid (Rv wr (.agg #[.slice a0 s.Parts.length c0, .slice a1 s.Channels.length c1, .slice a2 s.Slots.length c2, .slice al ps.length cl, .slice g s4 r4, .slice (some ⟨hb, 0, none⟩) s.Channels.length s.Channels.length, .int .i64 0]) (M.mk0 s ps)) := Lib.hid (Rv.mkMachine (x := M.mk0 s ps) (h0.out.ext EWr) (h1.out.ext EWr) (h2.out.ext EWr) (HL.out.ext EWr) ho.rs ⟨_, SHx.out⟩ ⟨by show (-9223372036854775808 : Int) ≤ 0; decide, by show (0 : Int) ≤ 9223372036854775807; decide⟩)
      clear hch hc0 KAr a10 ltA2 hf0 BZ EWr
      go_wp2_with (go_at_call 61; refine (impl_copyOf_Machine _ (M.mk0 s ps) _ RV.out (Nat.le_trans (M.mv_tot (M.mk0_MV hpg)) (by omega))).mono ?_; rintro e w5 ⟨v5, rfl, hov, ex⟩; obtain ⟨cs5, F5, rfl, hen, how⟩ := hov; obtain ⟨v0, v1, v2, v3, v4, v5, G0, G1, G2, G3, G4, G5, rfl, ⟨t0, u0, rfl, _⟩, ⟨t1, u1, rfl, _⟩, ⟨t2, u2, rfl, _⟩, ⟨t3, u3, rfl, _⟩, ⟨t4, u4, rfl, _⟩, ⟨t5, u5, rfl, _⟩, _, _⟩ := id hen; have HEN := Lib.hid hen; have HOW := Lib.hid how; have EY := Lib.hid (EX.out.tr ex); have KBx := KBr.out.ext ex; have z0 := KBx.cell (j := 0) rfl; have z1 := KBx.cell (j := 1) rfl; have z2 := KBx.cell (j := 2) rfl; have z3 := KBx.cell (j := 3) rfl; have z4 := KBx.cell (j := 4) rfl; have z5 := KBx.cell (j := 5) rfl; have z6 := KBx.cell (j := 6) rfl; have zf := KBx.fz; have ltZ := KBx.lt; clear hen how ex KBx)
      have hZ : w.heap.size + 1 ∉ F5 := fun hm => by have := (HOW.out.2 _ hm).1; omega
      refine bodyPost_ret (v := .agg #[.slice t0 (M.mk0 s ps).Plan.Parts.length u0, .slice t1 (M.mk0 s ps).Plan.Channels.length u1, .slice t2 (M.mk0 s ps).Plan.Slots.length u2, .slice t3 (M.mk0 s ps).Programs.length u3, .slice t4 (M.mk0 s ps).Cores.length u4, .slice t5 (M.mk0 s ps).Holds.length u5, .int .i64 (M.mk0 s ps).Tick]) (by simp [results, Tryz.results17, go_sem, z0, z1, z2, z3, z4, z5, z6]) rfl ⟨_, rfl, by rw [M.newMachine_t (M.pg_iff.2 hpg)]; exact ⟨_, _, rfl, enc_puts (c := w.heap.size + 1) (o := 0) (ds := [.slice t0 (M.mk0 s ps).Plan.Parts.length u0, .slice t1 (M.mk0 s ps).Plan.Channels.length u1, .slice t2 (M.mk0 s ps).Plan.Slots.length u2, .slice t3 (M.mk0 s ps).Programs.length u3, .slice t4 (M.mk0 s ps).Cores.length u4, .slice t5 (M.mk0 s ps).Holds.length u5, .int .i64 (M.mk0 s ps).Tick]) HEN.out hZ, ((HOW.out.mono (by omega)).put (b := w.heap.size + 1) (o := 0) (cs := [.slice t0 (M.mk0 s ps).Plan.Parts.length u0, .slice t1 (M.mk0 s ps).Plan.Channels.length u1, .slice t2 (M.mk0 s ps).Plan.Slots.length u2, .slice t3 (M.mk0 s ps).Programs.length u3, .slice t4 (M.mk0 s ps).Cores.length u4, .slice t5 (M.mk0 s ps).Holds.length u5, .int .i64 (M.mk0 s ps).Tick]))⟩, ?_⟩
      exact (((((((EY.out).set (by simp) _).set (by simp) _).set (by simp) _).set (by simp) _).set (by simp) _).set (by simp) _).set (by simp) _
end Sk

