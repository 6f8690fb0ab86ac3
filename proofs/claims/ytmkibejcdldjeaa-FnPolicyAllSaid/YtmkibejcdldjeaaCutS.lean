/- Contracts of functions of the given program, and lemmas for them: each theorem states the condition under which it holds. -/
import Derived.Test.YtmkibejcdldjeaaChecked
import Derived.Deep.CutBlock
import Derived.Deep.CutRange
import Derived.Test.YtmkibejcdldjeaaDel
import Derived.Test.YtmkibejcdldjeaaSetupS
namespace Sk
open Go Go.Proofs Go.RowKit
set_option maxHeartbeats 4000000
set_option maxRecDepth 100000
set_option linter.unusedVariables false
set_option linter.unusedSimpArgs false
theorem Fz.ofChg {b o n k : Nat} {F : List Nat} {a c : World} {cs : List Value} {T : TypeId} (h : Chg b o n F a c) (hb : Bk a k cs T) : ∀ j, c.frozen? ⟨k, j, none⟩ = false := by
  obtain ⟨_, _, h2⟩ := h.2.2.2.2 k ⟨_, _, hb⟩
  exact h2.fz
theorem spec_CutChannels (v v1 : Value) (s : Setup) (q : List (List Bool)) (w : World) (h : Rv w v s) (hq : Rs w v1 q) (hn : GT.tot s ≤ 1048576) (hnq : GT.tot q ≤ 1048576) :
    Calls Try.prog 12 #[v, v1] w fun e w' => ∃ v', e = .returned v' ∧ Rv w' v' (M.cut s q) ∧ Ext w w' := by
  have H0 := Lib.hid h
  have HQ0 := Lib.hid hq
  obtain ⟨aq, cq, rfl, hlq⟩ := hq.form
  obtain ⟨a0, c0, a1, c1, a2, c2, rfl, h0, hl0, h1, hl1, h2, hl2⟩ := h.openSetup
  clear h h0 h1 h2 hq
  go_enter Try.func12, Try.ntmps12
  go_upto_region 1 with (fail)
  refine abs_world (fun W => Ext w W ∧ Bk W w.heap.size [.slice a0 s.Parts.length c0, .slice a1 s.Channels.length c1, .slice a2 s.Slots.length c2] 27 ∧ Bk W (w.heap.size + 1) [.slice none 0 0, .slice none 0 0, .slice none 0 0] 27) ⟨((Ext.refl _).alloc _).alloc _, (Bk.new _ _ _).ext ((Ext.refl _).alloc _), Bk.new1 _ _ _ _⟩ ?_
  rintro w0 ⟨E, KA, KB⟩
  have ltB := KB.lt
  have u0 := KA.cell (j := 0) rfl
  have u1 := KA.cell (j := 1) rfl
  have u2 := KA.cell (j := 2) rfl
  replace E := Lib.hid E; replace KA := Lib.hid KA; replace KB := Lib.hid KB
  go_upto_region 2 with (go_at_call 29; refine (spec_l1OwnSetup _ s _ (H0.out.ext E.out) hn).mono ?_; rintro e w1 ⟨v1, rfl, ho, he⟩; obtain ⟨p0, q0, p1, q1, p2, q2, rfl, k0, _, k1, _, k2, _⟩ := ho.rv.openSetup; have HO := Lib.hid ho; have E1 := Lib.hid he; have f0 := (KA.out.ext he).cell (j := 0) rfl; have f1 := (KA.out.ext he).cell (j := 1) rfl; have f2 := (KA.out.ext he).cell (j := 2) rfl; have fz := (KA.out.ext he).fz; have gl := he.sz; clear ho he k0 k1 k2)
  refine abs_world (fun W => Ext w W ∧ w0.heap.size ≤ W.heap.size ∧ Bk W w.heap.size [.slice p0 s.Parts.length q0, .slice p1 s.Channels.length q1, .slice p2 s.Slots.length q2] 27 ∧ Bk W (w.heap.size + 1) [.slice none 0 0, .slice none 0 0, .slice none 0 0] 27 ∧ Rv W (.agg #[.slice p0 s.Parts.length q0, .slice p1 s.Channels.length q1, .slice p2 s.Slots.length q2]) s) ?_ ?_
  · refine ⟨(((E.out.tr E1.out).set (Nat.le_refl _) _).set (Nat.le_refl _) _).set (Nat.le_refl _) _, by simpa using gl, ((((KA.out.ext E1.out).set 0 _).set 1 _).set 2 _), ((((KB.out.ext E1.out).set_ne (by show _ ≠ w.heap.size; omega) _).set_ne (by show _ ≠ w.heap.size; omega) _).set_ne (by show _ ≠ w.heap.size; omega) _), ?_⟩
    exact Ov.rv (Ov.hi (HO.out) (Hi.set (Hi.set (Hi.set (Hi.refl _ _) (by show w.heap.size < w0.heap.size; omega) _) (by show w.heap.size < w0.heap.size; omega) _) (by show w.heap.size < w0.heap.size; omega) _))
  rintro W ⟨E2, lW, KA2, KB2, HR⟩
  clear f0 f1 f2 fz u0 u1 u2 HO E1 gl KA KB H0
  replace E2 := Lib.hid E2; replace KA2 := Lib.hid KA2; replace KB2 := Lib.hid KB2; replace HR := Lib.hid HR
  go_upto_region 3 with (go_at_call 30; refine (spec_l1OwnRowsBool _ q _ (HQ0.out.ext E2.out) hnq).mono ?_; rintro e w3 ⟨vq, rfl, ho, he⟩; obtain ⟨aq2, cq2, rfl, _⟩ := ho.form; have HQ := Lib.hid ho.rs; have E3 := Lib.hid he; have k0 := (KA2.out.ext he).cell (j := 0) rfl; have k1 := (KA2.out.ext he).cell (j := 1) rfl; have k2 := (KA2.out.ext he).cell (j := 2) rfl; clear ho he)
  cases g : M.setv s
  · have hm := Lib.hid (M.cut_f (q := q) (.inl g))
    go_upto_region 4 with (go_at_call 16; refine (spec_SetupValid _ s _ (HR.out.ext E3.out)).mono ?_; rintro e w4 ⟨he, he4⟩; rw [g] at he; subst he; have E4 := Lib.hid (E3.out.tr he4); clear he4)
    have z0 := (KB2.out.ext E4.out).cell (j := 0) rfl
    have z1 := (KB2.out.ext E4.out).cell (j := 1) rfl
    have z2 := (KB2.out.ext E4.out).cell (j := 2) rfl
    have zf := (KB2.out.ext E4.out).fz
    go_wp2
    refine bodyPost_ret (v := .agg #[.slice none 0 0, .slice none 0 0, .slice none 0 0]) (by simp [results, Try.results12, go_sem, z0, z1, z2]) rfl ⟨_, rfl, by rw [hm.out]; exact (ov_zero (α := Setup) (L := 0)).rv, ?_⟩
    exact (((E2.out.tr E4.out).set (by simp) _).set (by simp) _).set (by simp) _
  · have hp5 := M.setv_parts g
    have hc8 := M.setv_chans g
    cases gk : M.pv q s.Parts.length
    · have hm := Lib.hid (M.cut_f (s := s) (.inr gk))
      go_upto_region 4 with (first
        | (go_at_call 16; refine (spec_SetupValid _ s _ (HR.out.ext E3.out)).mono ?_; rintro e w4 ⟨he, he4⟩; rw [g] at he; subst he; have E4 := Lib.hid (E3.out.tr he4); have r0 := (KA2.out.ext E4.out).cell (j := 0) rfl; have E34 := Lib.hid he4; clear he4)
        | (go_at_call 31; refine (specPolicyValid _ q _ _ (HQ.out.ext E34.out)).mono ?_; rintro e w5 ⟨he, he5⟩; rw [gk] at he; subst he; have E5 := Lib.hid (E4.out.tr he5.ext); clear he5))
      have z0 := (KB2.out.ext E5.out).cell (j := 0) rfl
      have z1 := (KB2.out.ext E5.out).cell (j := 1) rfl
      have z2 := (KB2.out.ext E5.out).cell (j := 2) rfl
      have zf := (KB2.out.ext E5.out).fz
      go_wp2
      refine bodyPost_ret (v := .agg #[.slice none 0 0, .slice none 0 0, .slice none 0 0]) (by simp [results, Try.results12, go_sem, z0, z1, z2]) rfl ⟨_, rfl, by rw [hm.out]; exact (ov_zero (α := Setup) (L := 0)).rv, ?_⟩
      exact (((E2.out.tr E5.out).set (by simp) _).set (by simp) _).set (by simp) _
    · have hm := Lib.hid (M.cut_t g gk)
      go_upto_region 6 with (first
        | (go_at_call 16; refine (spec_SetupValid _ s _ (HR.out.ext E3.out)).mono ?_; rintro e w4 ⟨he, he4⟩; rw [g] at he; subst he; have E4 := Lib.hid (E3.out.tr he4); have r0 := (KA2.out.ext E4.out).cell (j := 0) rfl; have E34 := Lib.hid he4; clear he4)
        | (go_at_call 31; refine (specPolicyValid _ q _ _ (HQ.out.ext E34.out)).mono ?_; rintro e w5 ⟨he, he5⟩; rw [gk] at he; subst he; have E5 := Lib.hid (E4.out.tr he5.ext); have E35 := Lib.hid (E34.out.tr he5.ext); have s0 := (KA2.out.ext E5.out).cell (j := 0) rfl; have s1 := (KA2.out.ext E5.out).cell (j := 1) rfl; have s2 := (KA2.out.ext E5.out).cell (j := 2) rfl; clear he5)
        | (go_at_call 32; refine (spec_l18Setup _ s _ (HR.out.ext E5.out) hn).mono ?_; rintro e w6 ⟨v6, rfl, ⟨_, _, rfl, ⟨x0, x1, x2, F0, F1, F2, rfl, S0, S1, S2, rfl⟩, ow6⟩, he6⟩; have HS0 := Lib.hid S0; have HS2 := Lib.hid S2; have HOW := Lib.hid ow6; have E6 := Lib.hid (E5.out.tr he6); have E36 := Lib.hid (E35.out.tr he6); obtain ⟨m0, n0, rfl, _⟩ := id S0; obtain ⟨m1, n1, rfl, _⟩ := id S1; obtain ⟨m2, n2, rfl, _⟩ := id S2; clear S0 S1 S2 ow6 he6))
      refine abs_world (fun W5 => Ext w6 W5 ∧ Bk W5 w6.heap.size [.slice m0 s.Parts.length n0, .slice m1 s.Channels.length n1, .slice m2 s.Slots.length n2] 27) ⟨(Ext.refl _).alloc _, Bk.new _ _ _⟩ ?_
      rintro W5 ⟨EX, BX⟩
      have lX := BX.lt
      have x0 := BX.cell (j := 0) rfl
      have x1 := BX.cell (j := 1) rfl
      have x2 := BX.cell (j := 2) rfl
      have xf := BX.fz
      have EW5 := Lib.hid (E6.out.tr EX)
      have E3W5 := Lib.hid (E36.out.tr EX)
      have hl6 := E6.out.sz
      have hl5 := E5.out.sz
      have hl36 := E36.out.sz
      have hl2 := E2.out.sz
      replace BX := Lib.hid BX
      replace EX := Lib.hid EX
      clear s0 s1 s2 r0 k0 k1 k2
      go_upto_region 7 with (fail)
      go_wp2
      generalize hB : w6.heap.size = B at *
      have hcl : (W5.setCell ⟨B, 1, none⟩ (.slice (some ⟨W5.heap.size, 0, none⟩) 0 0)).heap.size = W5.heap.size := by simp
      refine abs_world (fun Wx => Chg B 1 1 [] W5 Wx ∧ Wx.cell? ⟨B, 1, none⟩ = some (.slice (some ⟨W5.heap.size, 0, none⟩) 0 0) ∧ Oo (α := Channel) 38 W5.heap.size Wx (.slice (some ⟨W5.heap.size, 0, none⟩) 0 0) []) ?_ ?_
      · have h1 := Oo.lit0 (α := Channel) 38 (W5.setCell ⟨B, 1, none⟩ (.slice (some ⟨W5.heap.size, 0, none⟩) 0 0))
        rw [hcl] at h1
        refine ⟨((Chg.refl _ _ _ _ _).set ⟨by omega, by omega⟩ _).tr (Chg.ofExt ((Ext.refl _).alloc _) (by rw [hcl]; exact lX)), ?_, h1⟩
        rw [(bcell ((Ext.refl _).alloc _)).1 B 1 (by rw [hcl]; exact lX)]
        exact cell_set x1
      clear hcl
      rintro Wx ⟨hc0, hd0, ho0⟩
      obtain ⟨_, _, _, _, _, _, e, _, _, hrc, hlc, _, _⟩ := HR.out.openSetup
      cases e
      have hcell := KA2.out.cell (j := 1) rfl
      have hlA := KA2.out.lt
      have hl3 := E3.out.sz
      generalize hn' : s.Channels.length = n at *
      go_loopw [6] (fun i wr => ∃ (k : Nat) (ao : Option Addr) (no co : Nat), k ≤ n ∧ i = .int .i64 k ∧ Chg B 1 1 [] W5 wr ∧ wr.cell? ⟨B, 1, none⟩ = some (.slice ao no co) ∧ Oo 38 W5.heap.size wr (.slice ao no co) ((s.Channels.take k).filter (M.ck q))) (fun i _ => n - (intOf i).toNat)
      case atStart => exact ⟨0, _, _, _, Nat.zero_le _, rfl, hc0, hd0, ho0⟩
      case round =>
        obtain ⟨k, ao, no, co, hk, rfl, hch, hcc, ho⟩ := hrel
        have HC := Lib.hid hch
        have HO := Lib.hid ho
        have EW := Lib.hid (HC.out.ext EW5.out (by omega) (by simp))
        have E3r := Lib.hid (HC.out.ext E3W5.out (by omega) (by simp))
        have a10 := (cell_ext EW.out hlA).trans hcell
        have lWr := HC.out.sz
        clear hch ho
        by_cases hkt : k < n
        · obtain ⟨b, o, x, rfl, hb, hx, hc0, hc1, hc2, hc3, hr0, hr1, hr2, hr3, hv⟩ := (hrc.out.ext EW.out).atChannel k (by omega)
          obtain ⟨i, j, hi, hj, hin, hjn⟩ := M.cv_nat g (List.mem_of_getElem? hx.out)
          have hql := Lib.hid (M.pv_len gk)
          have hiq : i < q.length := by have := hql.out; omega
          have hjq : j < q.length := by have := hql.out; omega
          obtain ⟨b9, o9, r, ra, rc, rfl, lt1, hr, hd1, hrs, _⟩ := (HQ.out.ext E3r.out).atList i (by have := hql.out; omega)
          obtain ⟨b', o', sr, sa, sc, hbo, lt2, hs, hd2, hss, _⟩ := (HQ.out.ext E3r.out).atList j (by have := hql.out; omega)
          cases hbo
          have hrl := M.pv_row gk hr.out
          have hsl := M.pv_row gk hs.out
          rw [hrl] at hd1 hrs
          rw [hsl] at hd2 hss
          obtain ⟨b5, o5, y, rfl, lt5, hy, hd5⟩ := hrs.out.atBool j (by omega)
          obtain ⟨b6, o6, z, rfl, lt6, hz, hd6⟩ := hss.out.atBool i (by omega)
          have hmm : Hid (M.ck q x = (y && (!(x.Kind == 3) || z))) := Lib.hid (by
            unfold M.ck; rw [hi, hj, Int.toNat_natCast, Int.toNat_natCast, M.at2_of hr.out hy.out, M.at2_of hs.out hz.out])
          have hst := Lib.hid (by rw [take_snoc hx.out, List.filter_append] : (s.Channels.take (k + 1)).filter (M.ck q) = (s.Channels.take k).filter (M.ck q) ++ [x].filter (M.ck q))
          rw [hi] at hc1
          rw [hj] at hc2
          clear hr hs hy hz hrs hss
          go_upto_region 11 with (fail)
          refine abs_world (fun W2 => Ext wr W2 ∧ Bk W2 wr.heap.size [.int .i64 x.Kind, .int .i64 i, .int .i64 j, .int .i64 x.Size] 38) ⟨(Ext.refl _).alloc _, Bk.new _ _ _⟩ ?_
          rintro W2 ⟨e2, b2⟩
          have y0 := b2.cell (j := 0) rfl
          have y1 := b2.cell (j := 1) rfl
          have y2 := b2.cell (j := 2) rfl
          have y3 := b2.cell (j := 3) rfl
          have lw2 := b2.lt
          have n1 := (cell_ext e2 (by omega : B < wr.heap.size)).trans hcc
          have n2 := (cell_ext e2 lt1).trans hd1
          have n3 := (cell_ext e2 lt2).trans hd2
          have n4 := (cell_ext e2 lt5).trans hd5
          have n5 := (cell_ext e2 lt6).trans hd6
          have HC2 := Lib.hid (HC.out.tr (Chg.ofExt e2 (by omega)))
          have HO2 := Lib.hid (HO.out.ext e2)
          have fB : ∀ j, W2.frozen? ⟨B, j, none⟩ = false := by
            obtain ⟨cs, T, hb⟩ := HC2.out.2.2.2.2 B ⟨_, _, BX.out⟩
            exact hb.fz
          clear e2 b2 hd1 hd2 hd5 hd6 hcc hc0 hc1 hc2 hc3 HC HO EW E3r a10
          have hlen : ((s.Channels.take k).filter (M.ck q)).length ≤ 8 := Nat.le_trans (List.length_filter_le _ _) (by rw [List.length_take]; omega)
          cases y <;> cases hk3 : (x.Kind == 3) <;> cases z
          all_goals
            rw [hk3] at hmm
            first
              | have hk4 : (x.Kind != 3) = true := (by rw [bne, hk3]; rfl)
              | have hk4 : (x.Kind != 3) = false := (by rw [bne, hk3]; rfl)
            go_big_quiet (fail)
            first
              | (have hnot : Hid (M.ck q x = false) := Lib.hid (by rw [hmm.out]; rfl)
                 go_wp2
                 go_roundw
                 case rel => exact ⟨k + 1, _, _, _, by omega, by go_num, HC2.out.drewN _, n1, by rw [hst.out, List.filter_cons_of_neg (by rw [hnot.out]; simp), List.filter_nil, List.append_nil]; exact HO2.out.ext ((Ext.refl _).drewN _)⟩
                 case measure => simp [intOf]; omega)
              | (have hyes : Hid (M.ck q x = true) := Lib.hid (by rw [hmm.out]; rfl)
                 go_wp2_with (at_builtin; refine wpl_appO (u := W2) (α := Channel) rfl _ _ 24 rfl 38 Try.underlying24 elChannel (v := .slice ao no co) (ys := [x]) rfl HO2.out (((Ext.refl _).drewN _).alloc _) HC2.out.sz rfl rfl (Row.lit1 (cs := [_, _, _, _]) ⟨by rw [hi, hj], hr0, hr1, hr2, hr3, rfl⟩) (by simp) (Own.nil _ _) (by simp; omega) ?_; intro v5 w5 hO5 hg5; have hrow := HO2.out.own; have HO5 := Lib.hid hO5; have HC5 := Lib.hid (((HC2.out.drewN _).tr (Chg.ofExt ((Ext.refl _).alloc _) (by show B < W2.heap.size; omega))).grown hg5 hrow lX); have f5 := grown_cell hg5 ((cell_ext (((Ext.refl _).drewN _).alloc _) (by omega : B < W2.heap.size)).trans n1) (by simp; omega) (fun j hj => by have := hrow j hj; omega); have fz5 := Fz.ofChg HC5.out BX.out; clear hO5 hg5 hrow; obtain ⟨p5, k5, q5, rfl⟩ := HO5.out.sh)
                 go_roundw
                 case rel => exact ⟨k + 1, _, _, _, by omega, by go_num, HC5.out.set ⟨by omega, by omega⟩ _, cell_set f5, by rw [hst.out, List.filter_cons_of_pos hyes.out, List.filter_nil]; exact HO5.out.set lX _⟩
                 case measure => simp [intOf]; omega)
        · obtain rfl : k = n := by omega
          have hl : s.Channels.take k = s.Channels := List.take_of_length_le (by omega)
          rw [hl] at HO
          have hb0 := (HC.out.cell (j := 0) (by omega)).trans (BX.out.cell (j := 0) rfl)
          have hb2 := (HC.out.cell (j := 2) (by omega)).trans (BX.out.cell (j := 2) rfl)
          have BZ := HC.out.bk (KB2.out.ext EW5.out) (by omega) (by simp)
          have z0 := BZ.cell (j := 0) rfl
          have z1 := BZ.cell (j := 1) rfl
          have z2 := BZ.cell (j := 2) rfl
          have zf := BZ.fz
          have ltZ := BZ.lt
          obtain ⟨G0, S0, O0⟩ := HO.out.os
          have lo0 : ∀ k ∈ F0, k < B := fun k hk => by have := HOW.out.lt (List.mem_append_left _ hk); omega
          have lo2 : ∀ k ∈ F2, k < B := fun k hk => by have := HOW.out.lt (List.mem_append_right _ (List.mem_append_right _ hk)); omega
          have C0 := HC.out.sl (HS0.out.ext EX.out) (fun h => by have := lo0 B h; omega) (fun _ _ h => by cases h)
          have C2 := HC.out.sl (HS2.out.ext EX.out) (fun h => by have := lo2 B h; omega) (fun _ _ h => by cases h)
          have hZ0 : w.heap.size + 1 ∉ F0 := fun hm => by have := (HOW.out.2 _ (List.mem_append_left _ hm)).1; omega
          have hZ2 : w.heap.size + 1 ∉ F2 := fun hm => by have := (HOW.out.2 _ (List.mem_append_right _ (List.mem_append_right _ hm))).1; omega
          have hZ1 : w.heap.size + 1 ∉ G0 := fun hm => by have := (O0.2 _ hm).1; omega
          have EWW := Lib.hid (E2.out.tr EW.out)
          replace S0 := Lib.hid S0; replace C0 := Lib.hid C0; replace C2 := Lib.hid C2
          clear O0 BZ
          go_wp2
          refine bodyPost_ret (v := .agg #[.slice m0 s.Parts.length n0, .slice ao no co, .slice m2 s.Slots.length n2]) (by simp [results, Try.results12, go_sem, z0, z1, z2]) rfl ⟨_, rfl, by rw [hm.out]; exact ⟨_, _, rfl, ⟨_, _, _, _, _, _, rfl, ((C0.out.set hZ0 _).set hZ0 _).set hZ0 _, ((S0.out.set hZ1 _).set hZ1 _).set hZ1 _, ((C2.out.set hZ2 _).set hZ2 _).set hZ2 _, rfl⟩⟩, ?_⟩
          exact ((EWW.out.set (by simp) _).set (by simp) _).set (by simp) _
end Sk

