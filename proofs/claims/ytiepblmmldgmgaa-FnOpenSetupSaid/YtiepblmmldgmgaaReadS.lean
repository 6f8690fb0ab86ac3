/- Contracts of functions of the given program, and lemmas for them: each theorem states the condition under which it holds. -/
import Derived.Test.YtiepblmmldgmgaaChecked
import Derived.Deep.CutBlock
import Derived.Deep.CutRange
import Derived.Test.YtiepblmmldgmgaaReadI
namespace Sk
open Go Go.Proofs Go.RowKit
set_option maxHeartbeats 4000000
set_option maxRecDepth 100000
set_option linter.unusedVariables false
set_option linter.unusedSimpArgs false
/-- The second reader (type 77) has numbers of a word. -/
theorem Sn.rngs {W w : World} {b : Nat} {xs : List Int} {s : M.St} (h : Sn W w b xs s.1 s.2) : RngS s := by
  obtain ⟨_, _, p, a, c, _, e, _, h4⟩ := h
  intro x hx
  rw [e] at hx
  exact h4.rngs x (List.mem_of_mem_drop hx)
/-- A struct's value whose blocks lie from L on. -/
def Rvb {α : Type} [GT α] (L : Nat) (w : World) (v : Value) (x : α) : Prop := ∃ cs F, v = .agg cs.toArray ∧ GT.enc w cs x F ∧ ∀ k ∈ F, L ≤ k
theorem Rvb.rv {α : Type} [GT α] {L : Nat} {w : World} {v : Value} {x : α} (h : Rvb L w v x) : Rv w v x := by
  obtain ⟨cs, F, h1, h2, _⟩ := h
  exact ⟨cs, F, h1, h2⟩
theorem rvb_zero {α : Type} [GT α] {L : Nat} {w : World} : Rvb L w (.agg (GT.zc α).toArray) (default : α) := ⟨_, [], rfl, GT.zero w, fun k hk => by cases hk⟩
theorem spec_ReadSetupB (v : Value) (xs : List Int) (w : World) (h : Rs w v xs) :
    Calls Try.prog 16 #[v] w fun e w' => ∃ v', e = .returned (.tuple #[v', .bool (M.readS xs).2]) ∧ Rvb w.heap.size w' v' (M.readS xs).1 ∧ Ext w w' := by
  obtain ⟨a, c, rfl, hl⟩ := h.form
  have H := Lib.hid h
  clear h
  go_enter Try.func16, Try.ntmps16
  go_upto_region 3 with (fail)
  refine abs_world (fun W => Ext w W ∧ Bk W w.heap.size [.slice none 0 0, .slice none 0 0, .slice none 0 0] 27 ∧ Sn w W (w.heap.size + 1) xs xs false ∧ Bk W (w.heap.size + 2) [.slice none 0 0, .slice none 0 0, .slice none 0 0] 27) ?_ ?_
  · refine ⟨(((Ext.refl _).alloc _).alloc _).alloc _, (Bk.new _ _ _).ext (((Ext.refl _).alloc _).alloc _), ⟨by omega, (((Ext.refl _).alloc _).alloc _).alloc _, 0, a, c, Nat.zero_le _, rfl, (Bk.new1 _ _ _ _).ext ((Ext.refl _).alloc _), H.out⟩, Bk.new2 _ _ _ _ _⟩
  rintro W0 ⟨E0, KB0, RN0, KS0⟩
  have hz0 : w.heap.size + 3 ≤ W0.heap.size := KS0.lt
  generalize hB0 : w.heap.size = B0 at *
  obtain ⟨R, hR⟩ : ∃ R, R = B0 + 1 := ⟨_, rfl⟩
  obtain ⟨S, hS⟩ : ∃ S, S = R + 1 := ⟨_, rfl⟩
  rw [← hR] at RN0 ⊢
  rw [← hS]
  rw [show B0 + 2 = S by omega] at KS0
  have hBR : B0 < R := by omega
  have hRS : R < S := by omega
  have hSz : S < W0.heap.size := by omega
  clear hR hS hz0
  replace hB0 := Lib.hid hB0
  replace E0 := Lib.hid E0; replace KB0 := Lib.hid KB0; replace RN0 := Lib.hid RN0; replace KS0 := Lib.hid KS0
  go_upto_block 0 with (go_at_call 43; refine (spec_many _ _ _ _ _ _ _ RN0.out).mono ?_; rintro e W1 ⟨r, rfl, hr0, hrr, hm, hn⟩; have HQ := Lib.hid hr0; have HM1 := Lib.hid hm; have RN1 := Lib.hid hn; clear hm hn hr0)
  have hr := HQ.out
  clear HQ
  have hb5 := M.many_bd xs (m := 5) (by omega)
  have HN5 : Hid (r = M.mx 5 (xs, false)) := Lib.hid hr
  rw [← hr] at hb5
  obtain ⟨n5, hn5⟩ : ∃ n : Nat, r = n := ⟨r.toNat, by omega⟩
  subst hn5
  have h5n : n5 ≤ 5 := by omega
  clear hb5 hrr hr
  have KS1 := Lib.hid (HM1.out.bk KS0.out (by simp; omega))
  have KB1 := Lib.hid (HM1.out.bk KB0.out (by simp; omega))
  have hz1 : S < W1.heap.size := by rw [HM1.out.lt]; exact hSz
  obtain ⟨s1, hs1⟩ : ∃ s : M.St, s = M.ms 5 (xs, false) := ⟨_, rfl⟩
  have RS1 : Hid (Sn w W1 R xs s1.1 s1.2) := Lib.hid (by rw [hs1]; exact RN1.out)
  clear RN1 RN0 HM1 KS0 KB0 E0
  replace hs1 := Lib.hid hs1
  go_cut [] from 21 to 82 (fun wx => ∃ (ao : Option Addr) (no co : Nat), Mw [R, S] W1 wx ∧ Bk wx S [.slice ao no co, .slice none 0 0, .slice none 0 0] 27 ∧ Oo 58 W1.heap.size wx (.slice ao no co) (M.iterB M.sP1 n5 s1).1 ∧ Sn w wx R xs (M.iterB M.sP1 n5 s1).2.1 (M.iterB M.sP1 n5 s1).2.2)
  case first =>
    go_wp2_with fail
    go_loopw [6] (fun i wr => ∃ (k : Nat) (ao : Option Addr) (no co : Nat), k ≤ n5 ∧ i = .int .i64 (n5 - k : Int) ∧ Mw [R, S] W1 wr ∧ Bk wr S [.slice ao no co, .slice none 0 0, .slice none 0 0] 27 ∧ Oo 58 W1.heap.size wr (.slice ao no co) (M.iterB M.sP1 k s1).1 ∧ Sn w wr R xs (M.iterB M.sP1 k s1).2.1 (M.iterB M.sP1 k s1).2.2) (fun i _ => (intOf i).toNat)
    case atStart => exact ⟨0, _, _, _, Nat.zero_le _, by simp, Mw.refl _ _, KS1.out, Oo.nil _ _ _, RS1.out⟩
    case round =>
      obtain ⟨k, ao, no, co, hk, rfl, hmw, hks, hoo, hrn⟩ := hrel
      have MW := Lib.hid hmw
      have KS := Lib.hid hks
      have HO := Lib.hid hoo
      have RN := Lib.hid hrn
      have hzr := hmw.size
      have hpl := M.iterB_len M.sP1 k s1
      obtain ⟨fb, ff⟩ := hrn.bad
      clear hmw hks hoo hrn
      by_cases hkt : k < n5
      · cases hbad : (M.iterB M.sP1 k s1).2.2
        · have HST : Hid (M.iterB M.sP1 (k + 1) s1 = ((M.iterB M.sP1 k s1).1 ++ [(M.sP1 (M.iterB M.sP1 k s1).2).1], (M.sP1 (M.iterB M.sP1 k s1).2).2)) := Lib.hid (by rw [M.iterB, hbad]; rfl)
          generalize (M.iterB M.sP1 k s1).2 = sk at *
          generalize (M.iterB M.sP1 k s1).1 = pk at *
          rw [hbad] at fb
          go_upto_region 7 with (go_at_call 44; refine (spec_next _ _ _ _ _ _ RN.out).mono ?_; rintro e W2 ⟨r, rfl, hr0, hrr, hm, hn⟩; have HR := Lib.hid hr0; have HM := Lib.hid hm; have HN := Lib.hid hn; have HRR := Lib.hid hrr; clear hm hn hr0 hrr)
          have hr := HR.out
          have hr' : r = M.nx sk := hr
          subst hr'
          clear hr HR
          have hrr2 := HRR.out
          have hzz2 : wr.heap.size ≤ W2.heap.size := Nat.le_of_eq HM.out.lt.symm
          have MW2 := Lib.hid (MW.out.tr HM.out.mw2)
          have KS2 := Lib.hid (HM.out.bk KS.out (by simp; omega))
          have HO2 := Lib.hid ((HO.out.mo HM.out (by simp; omega)).ob)
          have RN2 : Hid (Sn w W2 R xs (M.ns sk).1 (M.ns sk).2) := Lib.hid HN.out
          clear HM HN HRR MW KS HO RN fb ff
          refine abs_world (fun W => Ext W2 W ∧ Bk W W2.heap.size [.slice none 0 0, .int .i64 (M.nx sk)] 58) ⟨(Ext.refl _).alloc _, Bk.new _ _ _⟩ ?_
          rintro W3 ⟨e3, KP⟩
          have hP3 := KP.lt
          generalize hP : W2.heap.size = P at *
          have hSP : S < P := by omega
          replace hP := Lib.hid hP
          have MW3 := Lib.hid (MW2.out.tr (Mw.ofExt e3))
          have KS3 := Lib.hid (KS2.out.ext e3)
          have HO3 := Lib.hid (HO2.out.of (fun k _ h => e3.block k (by have := hP.out; omega)))
          have RN3 := Lib.hid (RN2.out.ext e3)
          replace KP := Lib.hid KP
          clear e3 MW2 KS2 HO2 RN2
          go_upto_block 2 with (go_at_call 43; refine (spec_many _ _ _ _ _ _ _ RN3.out).mono ?_; rintro e W4 ⟨r, rfl, hr0, hrr, hm, hn⟩; have HR := Lib.hid hr0; have HM := Lib.hid hm; have HN := Lib.hid hn; clear hm hn hr0 hrr)
          have hr := HR.out
          have hbm := M.many_bd (M.ns sk).1 (m := 12) (by omega)
          have Hnw : Hid (r = M.mx 12 (M.ns sk)) := Lib.hid hr
          rw [← hr] at hbm
          obtain ⟨nw, hnn⟩ : ∃ n : Nat, r = n := ⟨r.toNat, by omega⟩
          subst hnn
          have h12n : nw ≤ 12 := by omega
          clear hbm hr HR
          obtain ⟨s2, hs2⟩ : ∃ s : M.St, s = M.ms 12 (M.ns sk) := ⟨_, rfl⟩
          replace hs2 := Lib.hid hs2
          have Rs2 : Hid (Sn w W4 R xs s2.1 s2.2) := Lib.hid (by rw [hs2.out]; exact HN.out)
          clear HN RN3
          have hsz4 := Nat.le_of_eq HM.out.lt.symm
          have MW4 := Lib.hid (MW3.out.tr HM.out.mw2)
          have KS4 := Lib.hid (HM.out.bk KS3.out (by simp; omega))
          have KP4 := Lib.hid (HM.out.bk KP.out (by simp; omega))
          have HO4 := Lib.hid (HO3.out.of (fun k h1 h2 => HM.out.2.2.1 k (by simp; omega)))
          have hP4 : P < W4.heap.size := KP4.out.lt
          clear HM KS3 KP HO3 MW3
          go_cut [] from 37 to 76 (fun wx => ∃ (wb : Option Addr) (wm wd : Nat), Mw [R, P] W4 wx ∧ Bk wx P [.slice wb wm wd, .int .i64 (M.nx sk)] 58 ∧ Oo 60 W4.heap.size wx (.slice wb wm wd) (M.iterB M.sW1 nw s2).1 ∧ Sn w wx R xs (M.iterB M.sW1 nw s2).2.1 (M.iterB M.sW1 nw s2).2.2)
          case first =>
            go_wp2_with fail
            go_loopw [8] (fun i wi => ∃ (j : Nat) (wb : Option Addr) (wm wd : Nat), j ≤ nw ∧ i = .int .i64 (nw - j : Int) ∧ Mw [R, P] W4 wi ∧ Bk wi P [.slice wb wm wd, .int .i64 (M.nx sk)] 58 ∧ Oo 60 W4.heap.size wi (.slice wb wm wd) (M.iterB M.sW1 j s2).1 ∧ Sn w wi R xs (M.iterB M.sW1 j s2).2.1 (M.iterB M.sW1 j s2).2.2) (fun i _ => (intOf i).toNat)
            case atStart => exact ⟨0, _, _, _, Nat.zero_le _, by simp, Mw.refl _ _, KP4.out, Oo.nil _ _ _, Rs2.out⟩
            case round =>
              obtain ⟨j, wb, wm, wd, hj, rfl, hmw, hkp, hoo, hrn⟩ := hrel
              have MWi := Lib.hid hmw
              have KPi := Lib.hid hkp
              have HOi := Lib.hid hoo
              have RNi := Lib.hid hrn
              have hzi := hmw.size
              have hwl := M.iterB_len M.sW1 j s2
              obtain ⟨fb, ff⟩ := hrn.bad
              clear hmw hkp hoo hrn
              by_cases hjt : j < nw
              · cases hbj : (M.iterB M.sW1 j s2).2.2
                · have HSW : Hid (M.iterB M.sW1 (j + 1) s2 = ((M.iterB M.sW1 j s2).1 ++ [(M.sW1 (M.iterB M.sW1 j s2).2).1], (M.sW1 (M.iterB M.sW1 j s2).2).2)) := Lib.hid (by rw [M.iterB, hbj]; rfl)
                  generalize (M.iterB M.sW1 j s2).2 = sj at *
                  generalize (M.iterB M.sW1 j s2).1 = wj at *
                  rw [hbj] at fb
                  have hrs := RNi.out.rngs
                  have rr0 := hrs.nx
                  have rr1 := hrs.ns.nx
                  clear hrs
                  go_upto_region 11 with (go_at_call 44; refine (spec_next _ _ _ _ _ _ RNi.out).mono ?_; rintro e W5 ⟨r, rfl, hr0, hrr, hm, hn⟩; have HR := Lib.hid hr0; have HM := Lib.hid hm; have HN := Lib.hid hn; have HRR := Lib.hid hrr; clear hm hn hr0 hrr)
                  have hr := HR.out
                  have hr' : r = M.nx sj := hr
                  subst hr'
                  clear hr HR
                  have hz5 : wr.heap.size ≤ W5.heap.size := Nat.le_of_eq HM.out.lt.symm
                  have MW5 := Lib.hid (MWi.out.tr HM.out.mw2)
                  have KP5 := Lib.hid (HM.out.bk KPi.out (by simp; omega))
                  have HO5 := Lib.hid ((HOi.out.mo HM.out (by simp; omega)).ob)
                  have SN5 : Hid (Sn w W5 R xs (M.ns sj).1 (M.ns sj).2) := Lib.hid HN.out
                  clear HM HN HRR fb ff MWi KPi HOi RNi
                  refine abs_world (fun W => Ext W5 W ∧ Bk W W5.heap.size [.int .i64 (M.nx sj), .int .i64 0, .bool false] 60) ⟨(Ext.refl _).alloc _, Bk.new _ _ _⟩ ?_
                  rintro W6 ⟨e6, KQ⟩
                  have hQ6 := KQ.lt
                  generalize hQ : W5.heap.size = Q at *
                  have hPQ : P < Q := by omega
                  replace hQ := Lib.hid hQ
                  have MW6 := Lib.hid (MW5.out.tr (Mw.ofExt e6))
                  have KP6 := Lib.hid (KP5.out.ext e6)
                  have HO6 := Lib.hid (HO5.out.of (fun k _ h => e6.block k (by have := hQ.out; omega)))
                  have SN6 := Lib.hid (SN5.out.ext e6)
                  replace KQ := Lib.hid KQ
                  clear e6 MW5 KP5 HO5 SN5
                  go_upto_region 12 with (go_at_call 44; refine (spec_next _ _ _ _ _ _ SN6.out).mono ?_; rintro e W7 ⟨r, rfl, hr0, hrr, hm, hn⟩; have HR := Lib.hid hr0; have HM := Lib.hid hm; have HN := Lib.hid hn; have HRR := Lib.hid hrr; have KQ2 := hm.bk KQ.out (by simp; omega); have q0 := KQ2.cell (j := 0) rfl; have q1 := KQ2.cell (j := 1) rfl; have q2 := KQ2.cell (j := 2) rfl; have qf := KQ2.fz; have ql := KQ2.lt; replace KQ2 := Lib.hid KQ2; clear hm hn hr0 hrr)
                  have hr := HR.out
                  have hr' : r = M.nx (M.ns sj) := hr
                  subst hr'
                  clear hr HR
                  refine abs_world (fun W => Mw [R, P] W4 W ∧ Bk W P [.slice wb wm wd, .int .i64 (M.nx sk)] 58 ∧ Oob 60 W4.heap.size Q W (.slice wb wm wd) wj ∧ Sn w W R xs (M.ns (M.ns sj)).1 (M.ns (M.ns sj)).2 ∧ Bk W Q [.int .i64 (M.nx sj), .int .i64 (M.nx (M.ns sj)), .bool false] 60) ?_ ?_
                  · refine ⟨(MW6.out.tr HM.out.mw2).set (.inr (by show _ ≤ Q; omega)) _, (HM.out.bk KP6.out (by simp; omega)).set_ne (by show P ≠ Q; omega) _, HO6.out.of (fun k h1 h2 => (heap_set_ne (by show k ≠ Q; omega)).trans (HM.out.2.2.1 k (by simp; omega))), HN.out.set (by show R ≠ Q; omega) (by show _ ≤ Q; have := hB0.out; omega) _, ?_⟩
                    have := KQ2.out.set 1 (.int .i64 (M.nx (M.ns sj)))
                    simpa using this
                  clear q0 q1 q2 qf ql HM HN HRR MW6 KP6 HO6 SN6 KQ KQ2
                  rintro W8 ⟨MW6, KP6, HO6, SN6, KQ⟩
                  replace MW6 := Lib.hid MW6; replace KP6 := Lib.hid KP6; replace HO6 := Lib.hid HO6; replace SN6 := Lib.hid SN6; replace KQ := Lib.hid KQ
                  go_upto_region 14 with (go_at_call 44; refine (spec_next _ _ _ _ _ _ SN6.out).mono ?_; rintro e W9 ⟨r, rfl, hr0, hrr, hm, hn⟩; have HR := Lib.hid hr0; have HM := Lib.hid hm; have HN := Lib.hid hn; have HRR := Lib.hid hrr; have KQ2 := hm.bk KQ.out (by simp; omega); have q0 := KQ2.cell (j := 0) rfl; have q1 := KQ2.cell (j := 1) rfl; have q2 := KQ2.cell (j := 2) rfl; have qf := KQ2.fz; have ql := KQ2.lt; replace KQ2 := Lib.hid KQ2; clear hm hn hr0 hrr)
                  have hr := HR.out
                  have hr' : r = M.nx (M.ns (M.ns sj)) := hr
                  subst hr'
                  clear hr HR
                  refine abs_world (fun W => Mw [R, P] W4 W ∧ Bk W P [.slice wb wm wd, .int .i64 (M.nx sk)] 58 ∧ Oob 60 W4.heap.size Q W (.slice wb wm wd) wj ∧ Sn w W R xs (M.ns (M.ns (M.ns sj))).1 (M.ns (M.ns (M.ns sj))).2 ∧ Bk W Q [.int .i64 (M.nx sj), .int .i64 (M.nx (M.ns sj)), .bool (M.nx (M.ns (M.ns sj)) == 1)] 60) ?_ ?_
                  · refine ⟨(MW6.out.tr HM.out.mw2).set (.inr (by show _ ≤ Q; omega)) _, (HM.out.bk KP6.out (by simp; omega)).set_ne (by show P ≠ Q; omega) _, HO6.out.of (fun k h1 h2 => (heap_set_ne (by show k ≠ Q; omega)).trans (HM.out.2.2.1 k (by simp; omega))), HN.out.set (by show R ≠ Q; omega) (by show _ ≤ Q; have := hB0.out; omega) _, ?_⟩
                    have := KQ2.out.set 2 (.bool (M.nx (M.ns (M.ns sj)) == 1))
                    simpa using this
                  clear q0 q1 q2 qf ql HM HN HRR MW6 KP6 HO6 SN6 KQ KQ2
                  rintro W10 ⟨MW6, KP6, HO6, SN6, KQ⟩
                  obtain ⟨fb3, ff3⟩ := SN6.bad
                  have lR := SN6.lt
                  replace MW6 := Lib.hid MW6; replace KP6 := Lib.hid KP6; replace HO6 := Lib.hid HO6; replace SN6 := Lib.hid SN6; replace KQ := Lib.hid KQ
                  have HBD : Hid ((M.sW1 sj).2.2 = ((M.ns (M.ns (M.ns sj))).2 || !M.inn (M.nx (M.ns (M.ns sj))) 0 1)) := Lib.hid rfl
                  generalize hb3 : (M.ns (M.ns (M.ns sj))).2 = b3 at *
                  have hx : ∃ bb, Hid ((M.sW1 sj).2.2 = bb) := ⟨_, Lib.hid rfl⟩
                  cases b3 <;> cases hin : M.inn (M.nx (M.ns (M.ns sj))) 0 1
                  all_goals
                    rw [hin] at HBD
                    go_upto_region 15 with (go_at_call 45; refine (spec_In _ _ _ _).mono ?_; rintro e w' ⟨rfl, rfl⟩; rw [hin])
                    refine abs_world (fun W => Mw [R, P] W4 W ∧ Bk W P [.slice wb wm wd, .int .i64 (M.nx sk)] 58 ∧ Oob 60 W4.heap.size Q W (.slice wb wm wd) wj ∧ Sn w W R xs (M.sW1 sj).2.1 (M.sW1 sj).2.2 ∧ Bk W Q [.int .i64 (M.nx sj), .int .i64 (M.nx (M.ns sj)), .bool (M.nx (M.ns (M.ns sj)) == 1)] 60) ⟨MW6.out.set (.inl (by simp)) _, KP6.out.set_ne (by show P ≠ R; omega) _, HO6.out.of (fun k h1 h2 => heap_set_ne (by show k ≠ R; omega)), by rw [HBD.out]; exact SN6.out.setBad _, KQ.out.set_ne (by show Q ≠ R; omega) _⟩ ?_
                    clear MW6 KP6 HO6 SN6 KQ fb3 ff3 lR hin HBD
                    rintro W11 ⟨MW6, KP6, HO6, SN6, KQ⟩
                    have p0 := KP6.cell (j := 0) rfl
                    have pf := KP6.fz
                    have pl := KP6.lt
                    have q0 := KQ.cell (j := 0) rfl
                    have q1 := KQ.cell (j := 1) rfl
                    have q2 := KQ.cell (j := 2) rfl
                    have ql := KQ.lt
                    replace MW6 := Lib.hid MW6; replace KP6 := Lib.hid KP6; replace HO6 := Lib.hid HO6; replace SN6 := Lib.hid SN6; clear KQ
                    go_wp2_with (at_builtin; refine wpl_appB (α := Window) (L := W4.heap.size) (M := Q) rfl _ _ 56 rfl 60 Try.underlying56 elWindow (v := .slice wb wm wd) (ys := [(M.sW1 sj).1]) rfl (HO6.out.of (fun k _ h => ((Ext.refl W11).alloc _).block k (by omega))) (by omega) (by simp; omega) rfl rfl (Row.lit1 (cs := [_, _, _]) ⟨rfl, rr0, rr1, rfl⟩) (by simp) (Own.nil _ _) (by simp; omega) ?_; intro v5 w5 hO5 hg5; have HG5 := Lib.hid hg5; have HO7 := Lib.hid hO5; have hrow5 := HO6.out.own; have KP7 := Lib.hid (hg5.bk (KP6.out.ext ((Ext.refl _).alloc _)) (fun hm => by have := hrow5 _ (Option.mem_toList.1 hm); omega)); have g0 := KP7.out.cell (j := 0) rfl; have gf := KP7.out.fz; have gl := KP7.out.lt; obtain ⟨p5, k5, q5, rfl⟩ := hO5.sh; clear hO5 hg5)
                    go_roundw
                    case rel =>
                      refine ⟨j + 1, _, _, _, by omega, congrArg _ (by omega), ((MW6.out.tr (Mw.ofExt ((Ext.refl _).alloc _))).trF HG5.out (fun x hx => .inr (hrow5 x (Option.mem_toList.1 hx)).1)).set (by simp) _, by have := KP7.out.set 0 (.slice p5 k5 q5); simpa using this, ?_, ?_⟩
                      · rw [HSW.out]; exact HO7.out.set (by show P < W4.heap.size; omega) _
                      · rw [HSW.out]
                        exact ((SN6.out.ext ((Ext.refl _).alloc _)).mw HG5.out (fun hm => by have := hrow5 _ (Option.mem_toList.1 hm); omega) (fun x hx => by have := hrow5 x (Option.mem_toList.1 hx); have := hB0.out; omega)).set (by show R ≠ P; omega) (by show _ ≤ P; have := hB0.out; omega) _
                    case measure => simp [intOf]; omega
                · have HEX : Hid (M.iterB M.sW1 nw s2 = M.iterB M.sW1 j s2) := Lib.hid (by
                    have := M.iterB_bad M.sW1 s2 (n := j) (nw - j) hbj
                    rwa [show j + (nw - j) = nw by omega] at this)
                  rw [hbj] at fb
                  go_wp2
                  go_meet
                  exact ⟨_, _, _, MWi.out, KPi.out, by rw [HEX.out]; exact HOi.out, by rw [HEX.out]; exact RNi.out⟩
              · obtain rfl : j = nw := by omega
                go_wp2
                go_meet
                exact ⟨_, _, _, MWi.out, KPi.out, HOi.out, RNi.out⟩
          case rest =>
            obtain ⟨wb, wm, wd, hmw, hkp, hoo, hrn⟩ := hcut
            have HPK : Hid (M.sP1 sk = (⟨(M.iterB M.sW1 nw s2).1, M.nx sk⟩, (M.iterB M.sW1 nw s2).2)) := Lib.hid (by
              unfold M.sP1; rw [← Hnw.out, ← hs2.out, Int.toNat_natCast])
            have hwl := M.iterB_len M.sW1 nw s2
            generalize (M.iterB M.sW1 nw s2).2 = sj at *
            generalize (M.iterB M.sW1 nw s2).1 = wj at *
            obtain ⟨FW, SW, OW⟩ := hoo.os
            have HSW := Lib.hid SW
            have HOW := Lib.hid (OW.mono (by omega : P ≤ W4.heap.size))
            have hzi := hmw.size
            have KSi := Lib.hid (hmw.bk KS4.out (by simp; omega))
            have HOP := Lib.hid (HO4.out.of (fun k h1 h2 => hmw.2.2 k (by omega) (by simp; omega)))
            have MWR := Lib.hid (MW4.out.trF hmw (fun x hx => by
              rcases List.mem_cons.1 hx with h | h
              · exact .inl (by simp [h])
              · rw [List.mem_singleton] at h; subst h; exact .inr (by omega)))
            have s0 := KSi.out.cell (j := 0) rfl
            have s0f := KSi.out.fz
            have hlS := KSi.out.lt
            have p0 := hkp.cell (j := 0) rfl
            have p1 := hkp.cell (j := 1) rfl
            have RNi := Lib.hid hrn
            clear SW OW hmw hoo hrn hkp
            go_wp2_with (at_builtin; refine wpl_appB (α := Part) (L := W1.heap.size) (M := P) rfl _ _ 23 rfl 58 Try.underlying23 elPart (v := .slice ao no co) (ys := [⟨wj, M.nx sk⟩]) rfl (HOP.out.of (fun k _ h => ((Ext.refl wc).alloc _).block k (by omega))) (by omega) (by simp; omega) rfl rfl (Row.lit1 (cs := [_, _]) ⟨_, rfl, HSW.out, hrr2⟩) (by simp) (HOW.out.ext ((Ext.refl _).alloc _)) (by simp; omega) ?_; intro v5 w5 hO5 hg5; have HG5 := Lib.hid hg5; have HO5 := Lib.hid hO5; have hrow5 := HOP.out.own; have KS5 := Lib.hid (hg5.bk (KSi.out.ext ((Ext.refl _).alloc _)) (fun hm => by have := hrow5 _ (Option.mem_toList.1 hm); omega)); have g0 := KS5.out.cell (j := 0) rfl; have gf := KS5.out.fz; have gl := KS5.out.lt; obtain ⟨p5, k5, q5, rfl⟩ := hO5.sh; clear hO5 hg5)
            go_roundw
            case rel =>
              refine ⟨k + 1, _, _, _, by omega, congrArg _ (by omega), ((MWR.out.tr (Mw.ofExt ((Ext.refl _).alloc _))).trF HG5.out (fun x hx => .inr (hrow5 x (Option.mem_toList.1 hx)).1)).set (by simp) _, by have := KS5.out.set 0 (.slice p5 k5 q5); simpa using this, ?_, ?_⟩
              · rw [HST.out, HPK.out]; exact HO5.out.set (by show S < W1.heap.size; omega) _
              · rw [HST.out, HPK.out]
                exact ((RNi.out.ext ((Ext.refl _).alloc _)).mw HG5.out (fun hm => by have := hrow5 _ (Option.mem_toList.1 hm); omega) (fun x hx => by have := hrow5 x (Option.mem_toList.1 hx); have := hB0.out; omega)).set (by show R ≠ S; omega) (by show _ ≤ S; have := hB0.out; omega) _
            case measure => simp [intOf]; omega
        · have HEX : Hid (M.iterB M.sP1 n5 s1 = M.iterB M.sP1 k s1) := Lib.hid (by
            have := M.iterB_bad M.sP1 s1 (n := k) (n5 - k) hbad
            rwa [show k + (n5 - k) = n5 by omega] at this)
          rw [hbad] at fb
          go_wp2
          go_meet
          exact ⟨_, _, _, MW.out, KS.out, by rw [HEX.out]; exact HO.out, by rw [HEX.out]; exact RN.out⟩
      · obtain rfl : k = n5 := by omega
        go_wp2
        go_meet
        exact ⟨_, _, _, MW.out, KS.out, HO.out, RN.out⟩
  case rest =>
    obtain ⟨ao, no, co, hmw, hks, hoo, hrn⟩ := hcut
    have HPS : Hid (M.sPs (xs, false) = M.iterB M.sP1 n5 s1) := Lib.hid (by unfold M.sPs; rw [← HN5.out, ← hs1.out, Int.toNat_natCast])
    generalize M.iterB M.sP1 n5 s1 = pp at *
    have hzi := hmw.size
    have MW := Lib.hid hmw
    have KS := Lib.hid hks
    have HO := Lib.hid hoo
    have RN := Lib.hid hrn
    clear hmw hks hoo hrn RS1
    obtain ⟨wp, rfl⟩ : ∃ wp : World, wp = wc := ⟨_, rfl⟩
    go_upto_block 4 with (go_at_call 43; refine (spec_many _ _ _ _ _ _ _ RN.out).mono ?_; rintro e W5 ⟨r, rfl, hr0, hrr, hm, hn⟩; have HR := Lib.hid hr0; have HM := Lib.hid hm; have HN := Lib.hid hn; clear hm hn hr0 hrr)
    have hr := HR.out
    have hbm := M.many_bd pp.2.1 (m := 8) (by omega)
    have Hn8 : Hid (r = M.mx 8 pp.2) := Lib.hid hr
    rw [← hr] at hbm
    obtain ⟨n8, hnn⟩ : ∃ n : Nat, r = n := ⟨r.toNat, by omega⟩
    subst hnn
    have h8n : n8 ≤ 8 := by omega
    clear hbm hr HR
    obtain ⟨s3, hs3⟩ : ∃ s : M.St, s = M.ms 8 pp.2 := ⟨_, rfl⟩
    replace hs3 := Lib.hid hs3
    have Rs3 : Hid (Sn w W5 R xs s3.1 s3.2) := Lib.hid (by rw [hs3.out]; exact HN.out)
    clear HN RN
    have hsz5 := Nat.le_of_eq HM.out.lt.symm
    have KS5 := Lib.hid (HM.out.bk KS.out (by simp; omega))
    have MW5 := Lib.hid (MW.out.tr HM.out.mw2)
    have hlW5 : S < W5.heap.size := KS5.out.lt
    have hOP := Lib.hid (HO.out.os.osb.of (w' := W5) (fun k h1 h2 => HM.out.2.2.1 k (by simp; omega)))
    clear HM KS MW HO
    go_cut [] from 85 to 112 (fun wx => ∃ (a1 : Option Addr) (n1 c1 : Nat), Mw [R, S] W5 wx ∧ Bk wx S [.slice ao no co, .slice a1 n1 c1, .slice none 0 0] 27 ∧ Oo 63 W5.heap.size wx (.slice a1 n1 c1) (M.iterB M.iC1 n8 s3).1 ∧ Sn w wx R xs (M.iterB M.iC1 n8 s3).2.1 (M.iterB M.iC1 n8 s3).2.2)
    case first =>
      go_wp2_with fail
      go_loopw [11] (fun i wx => ∃ (j : Nat) (a1 : Option Addr) (n1 c1 : Nat), j ≤ n8 ∧ i = .int .i64 (n8 - j : Int) ∧ Mw [R, S] W5 wx ∧ Bk wx S [.slice ao no co, .slice a1 n1 c1, .slice none 0 0] 27 ∧ Oo 63 W5.heap.size wx (.slice a1 n1 c1) (M.iterB M.iC1 j s3).1 ∧ Sn w wx R xs (M.iterB M.iC1 j s3).2.1 (M.iterB M.iC1 j s3).2.2) (fun i _ => (intOf i).toNat)
      case atStart => exact ⟨0, _, _, _, Nat.zero_le _, by simp, Mw.refl _ _, KS5.out, Oo.nil _ _ _, Rs3.out⟩
      case round =>
        obtain ⟨j, a1, n1, c1, hj, rfl, hmw, hks, hoo, hrn⟩ := hrel
        have MWi := Lib.hid hmw
        have KSi := Lib.hid hks
        have HOi := Lib.hid hoo
        have RNi := Lib.hid hrn
        have hzi := hmw.size
        have hwl := M.iterB_len M.iC1 j s3
        obtain ⟨fb, ff⟩ := hrn.bad
        clear hmw hks hoo hrn
        by_cases hjt : j < n8
        · cases hbj : (M.iterB M.iC1 j s3).2.2
          · have HSW : Hid (M.iterB M.iC1 (j + 1) s3 = ((M.iterB M.iC1 j s3).1 ++ [(M.iC1 (M.iterB M.iC1 j s3).2).1], (M.iC1 (M.iterB M.iC1 j s3).2).2)) := Lib.hid (by rw [M.iterB, hbj]; rfl)
            generalize (M.iterB M.iC1 j s3).2 = sj at *
            generalize (M.iterB M.iC1 j s3).1 = wj at *
            rw [hbj] at fb
            have hrs := RNi.out.rngs
            have rr0 := hrs.nx
            have rr1 := hrs.ns.nx
            have rr2 := hrs.ns.ns.nx
            have rr3 := hrs.ns.ns.ns.nx
            clear hrs
            go_upto_region 21 with (go_at_call 44; refine (spec_next _ _ _ _ _ _ RNi.out).mono ?_; rintro e W7 ⟨r, rfl, hr0, hrr, hm, hn⟩; have HR := Lib.hid hr0; have HM := Lib.hid hm; have HN := Lib.hid hn; have HRR := Lib.hid hrr; clear hm hn hr0 hrr)
            have hr := HR.out
            have hr' : r = M.nx sj := hr
            subst hr'
            clear hr HR
            have hz5 : wr.heap.size ≤ W7.heap.size := Nat.le_of_eq HM.out.lt.symm
            have MW5' := Lib.hid (MWi.out.tr HM.out.mw2)
            have KP5 := Lib.hid (HM.out.bk KSi.out (by simp; omega))
            have HO5 := Lib.hid ((HOi.out.mo HM.out (by simp; omega)).ob)
            have SN5 : Hid (Sn w W7 R xs (M.ns sj).1 (M.ns sj).2) := Lib.hid HN.out
            clear HM HN HRR fb ff MWi KSi HOi RNi
            refine abs_world (fun W => Ext W7 W ∧ Bk W W7.heap.size [.int .i64 (M.nx sj), .int .i64 0, .int .i64 0, .int .i64 0] 63) ⟨(Ext.refl _).alloc _, Bk.new _ _ _⟩ ?_
            rintro W8 ⟨e6, KQ⟩
            have hQ6 := KQ.lt
            generalize hQ : W7.heap.size = Q at *
            have hSQ : S < Q := by omega
            replace hQ := Lib.hid hQ
            have MW6 := Lib.hid (MW5'.out.tr (Mw.ofExt e6))
            have KP6 := Lib.hid (KP5.out.ext e6)
            have HO6 := Lib.hid (HO5.out.of (fun k _ h => e6.block k (by have := hQ.out; omega)))
            have SN6 := Lib.hid (SN5.out.ext e6)
            replace KQ := Lib.hid KQ
            clear e6 MW5' KP5 HO5 SN5
            go_upto_region 22 with (go_at_call 44; refine (spec_next _ _ _ _ _ _ SN6.out).mono ?_; rintro e W9 ⟨r, rfl, hr0, hrr, hm, hn⟩; have HR := Lib.hid hr0; have HM := Lib.hid hm; have HN := Lib.hid hn; have HRR := Lib.hid hrr; have KQ2 := hm.bk KQ.out (by simp; omega); have q0 := KQ2.cell (j := 0) rfl; have q1 := KQ2.cell (j := 1) rfl; have q2 := KQ2.cell (j := 2) rfl; have q3 := KQ2.cell (j := 3) rfl; have qf := KQ2.fz; have ql := KQ2.lt; replace KQ2 := Lib.hid KQ2; clear hm hn hr0 hrr)
            have hr := HR.out
            have hr' : r = M.nx (M.ns sj) := hr
            subst hr'
            clear hr HR
            refine abs_world (fun W => Mw [R, S] W5 W ∧ Bk W S [.slice ao no co, .slice a1 n1 c1, .slice none 0 0] 27 ∧ Oob 63 W5.heap.size Q W (.slice a1 n1 c1) wj ∧ Sn w W R xs (M.ns (M.ns sj)).1 (M.ns (M.ns sj)).2 ∧ Bk W Q [.int .i64 (M.nx sj), .int .i64 (M.nx (M.ns sj)), .int .i64 0, .int .i64 0] 63) ?_ ?_
            · refine ⟨(MW6.out.tr HM.out.mw2).set (.inr (by show _ ≤ Q; omega)) _, (HM.out.bk KP6.out (by simp; omega)).set_ne (by show S ≠ Q; omega) _, HO6.out.of (fun k h1 h2 => (heap_set_ne (by show k ≠ Q; omega)).trans (HM.out.2.2.1 k (by simp; omega))), HN.out.set (by show R ≠ Q; omega) (by show _ ≤ Q; have := hB0.out; omega) _, ?_⟩
              have := KQ2.out.set 1 (.int .i64 (M.nx (M.ns sj)))
              simpa using this
            clear q0 q1 q2 q3 qf ql HM HN HRR MW6 KP6 HO6 SN6 KQ KQ2
            rintro W10 ⟨MW6, KP6, HO6, SN6, KQ⟩
            replace MW6 := Lib.hid MW6; replace KP6 := Lib.hid KP6; replace HO6 := Lib.hid HO6; replace SN6 := Lib.hid SN6; replace KQ := Lib.hid KQ
            go_upto_region 23 with (go_at_call 44; refine (spec_next _ _ _ _ _ _ SN6.out).mono ?_; rintro e W9 ⟨r, rfl, hr0, hrr, hm, hn⟩; have HR := Lib.hid hr0; have HM := Lib.hid hm; have HN := Lib.hid hn; have HRR := Lib.hid hrr; have KQ2 := hm.bk KQ.out (by simp; omega); have q0 := KQ2.cell (j := 0) rfl; have q1 := KQ2.cell (j := 1) rfl; have q2 := KQ2.cell (j := 2) rfl; have q3 := KQ2.cell (j := 3) rfl; have qf := KQ2.fz; have ql := KQ2.lt; replace KQ2 := Lib.hid KQ2; clear hm hn hr0 hrr)
            have hr := HR.out
            have hr' : r = M.nx (M.ns (M.ns sj)) := hr
            subst hr'
            clear hr HR
            refine abs_world (fun W => Mw [R, S] W5 W ∧ Bk W S [.slice ao no co, .slice a1 n1 c1, .slice none 0 0] 27 ∧ Oob 63 W5.heap.size Q W (.slice a1 n1 c1) wj ∧ Sn w W R xs (M.ns (M.ns (M.ns sj))).1 (M.ns (M.ns (M.ns sj))).2 ∧ Bk W Q [.int .i64 (M.nx sj), .int .i64 (M.nx (M.ns sj)), .int .i64 (M.nx (M.ns (M.ns sj))), .int .i64 0] 63) ?_ ?_
            · refine ⟨(MW6.out.tr HM.out.mw2).set (.inr (by show _ ≤ Q; omega)) _, (HM.out.bk KP6.out (by simp; omega)).set_ne (by show S ≠ Q; omega) _, HO6.out.of (fun k h1 h2 => (heap_set_ne (by show k ≠ Q; omega)).trans (HM.out.2.2.1 k (by simp; omega))), HN.out.set (by show R ≠ Q; omega) (by show _ ≤ Q; have := hB0.out; omega) _, ?_⟩
              have := KQ2.out.set 2 (.int .i64 (M.nx (M.ns (M.ns sj))))
              simpa using this
            clear q0 q1 q2 q3 qf ql HM HN HRR MW6 KP6 HO6 SN6 KQ KQ2
            rintro W10 ⟨MW6, KP6, HO6, SN6, KQ⟩
            replace MW6 := Lib.hid MW6; replace KP6 := Lib.hid KP6; replace HO6 := Lib.hid HO6; replace SN6 := Lib.hid SN6; replace KQ := Lib.hid KQ
            go_upto_region 24 with (go_at_call 44; refine (spec_next _ _ _ _ _ _ SN6.out).mono ?_; rintro e W9 ⟨r, rfl, hr0, hrr, hm, hn⟩; have HR := Lib.hid hr0; have HM := Lib.hid hm; have HN := Lib.hid hn; have HRR := Lib.hid hrr; have KQ2 := hm.bk KQ.out (by simp; omega); have q0 := KQ2.cell (j := 0) rfl; have q1 := KQ2.cell (j := 1) rfl; have q2 := KQ2.cell (j := 2) rfl; have q3 := KQ2.cell (j := 3) rfl; have qf := KQ2.fz; have ql := KQ2.lt; replace KQ2 := Lib.hid KQ2; clear hm hn hr0 hrr)
            have hr := HR.out
            have hr' : r = M.nx (M.ns (M.ns (M.ns sj))) := hr
            subst hr'
            clear hr HR
            refine abs_world (fun W => Mw [R, S] W5 W ∧ Bk W S [.slice ao no co, .slice a1 n1 c1, .slice none 0 0] 27 ∧ Oob 63 W5.heap.size Q W (.slice a1 n1 c1) wj ∧ Sn w W R xs (M.ns (M.ns (M.ns (M.ns sj)))).1 (M.ns (M.ns (M.ns (M.ns sj)))).2 ∧ Bk W Q [.int .i64 (M.nx sj), .int .i64 (M.nx (M.ns sj)), .int .i64 (M.nx (M.ns (M.ns sj))), .int .i64 (M.nx (M.ns (M.ns (M.ns sj))))] 63) ?_ ?_
            · refine ⟨(MW6.out.tr HM.out.mw2).set (.inr (by show _ ≤ Q; omega)) _, (HM.out.bk KP6.out (by simp; omega)).set_ne (by show S ≠ Q; omega) _, HO6.out.of (fun k h1 h2 => (heap_set_ne (by show k ≠ Q; omega)).trans (HM.out.2.2.1 k (by simp; omega))), HN.out.set (by show R ≠ Q; omega) (by show _ ≤ Q; have := hB0.out; omega) _, ?_⟩
              have := KQ2.out.set 3 (.int .i64 (M.nx (M.ns (M.ns (M.ns sj)))))
              simpa using this
            clear q0 q1 q2 q3 qf ql HM HN HRR MW6 KP6 HO6 SN6 KQ KQ2
            rintro W10 ⟨MW6, KP6, HO6, SN6, KQ⟩
            replace MW6 := Lib.hid MW6; replace KP6 := Lib.hid KP6; replace HO6 := Lib.hid HO6; replace SN6 := Lib.hid SN6; replace KQ := Lib.hid KQ
            have p0 := KP6.out.cell (j := 1) rfl
            have pf := KP6.out.fz
            have pl := KP6.out.lt
            have q0 := KQ.out.cell (j := 0) rfl
            have q1 := KQ.out.cell (j := 1) rfl
            have q2 := KQ.out.cell (j := 2) rfl
            have q3 := KQ.out.cell (j := 3) rfl
            have ql := KQ.out.lt
            clear KQ
            go_wp2_with (at_builtin; refine wpl_appB (α := Channel) (L := W5.heap.size) (M := Q) rfl _ _ 24 rfl 63 Try.underlying24 elChannel (v := .slice a1 n1 c1) (ys := [(M.iC1 sj).1]) rfl (HO6.out.of (fun k _ h => ((Ext.refl W10).alloc _).block k (by omega))) (by omega) (by simp; omega) rfl rfl (Row.lit1 (cs := [_, _, _, _]) ⟨rfl, rr0, rr1, rr2, rr3, rfl⟩) (by simp) (Own.nil _ _) (by simp; omega) ?_; intro v5 w5 hO5 hg5; have HG5 := Lib.hid hg5; have HO7 := Lib.hid hO5; have hrow5 := HO6.out.own; have KP7 := Lib.hid (hg5.bk (KP6.out.ext ((Ext.refl _).alloc _)) (fun hm => by have := hrow5 _ (Option.mem_toList.1 hm); omega)); have g0 := KP7.out.cell (j := 1) rfl; have gf := KP7.out.fz; have gl := KP7.out.lt; obtain ⟨p5, k5, q5, rfl⟩ := hO5.sh; clear hO5 hg5)
            go_roundw
            case rel =>
              refine ⟨j + 1, _, _, _, by omega, congrArg _ (by omega), ((MW6.out.tr (Mw.ofExt ((Ext.refl _).alloc _))).trF HG5.out (fun x hx => .inr (hrow5 x (Option.mem_toList.1 hx)).1)).set (by simp) _, by have := KP7.out.set 1 (.slice p5 k5 q5); simpa using this, ?_, ?_⟩
              · rw [HSW.out]; exact HO7.out.set (by show S < W5.heap.size; omega) _
              · rw [HSW.out]
                exact ((SN6.out.ext ((Ext.refl _).alloc _)).mw HG5.out (fun hm => by have := hrow5 _ (Option.mem_toList.1 hm); omega) (fun x hx => by have := hrow5 x (Option.mem_toList.1 hx); have := hB0.out; omega)).set (by show R ≠ S; omega) (by show _ ≤ S; have := hB0.out; omega) _
            case measure => simp [intOf]; omega
          · have HEX : Hid (M.iterB M.iC1 n8 s3 = M.iterB M.iC1 j s3) := Lib.hid (by
              have := M.iterB_bad M.iC1 s3 (n := j) (n8 - j) hbj
              rwa [show j + (n8 - j) = n8 by omega] at this)
            rw [hbj] at fb
            go_wp2
            go_meet
            exact ⟨_, _, _, MWi.out, KSi.out, by rw [HEX.out]; exact HOi.out, by rw [HEX.out]; exact RNi.out⟩
        · obtain rfl : j = n8 := by omega
          go_wp2
          go_meet
          exact ⟨_, _, _, MWi.out, KSi.out, HOi.out, RNi.out⟩
    case rest =>
      obtain ⟨a1, n1, c1, hmw, hks, hoo, hrn⟩ := hcut
      have HCS : Hid (M.sCs pp.2 = M.iterB M.iC1 n8 s3) := Lib.hid (by unfold M.sCs; rw [← Hn8.out, ← hs3.out, Int.toNat_natCast])
      generalize M.iterB M.iC1 n8 s3 = cc at *
      have hzc := hmw.size
      have MW := Lib.hid (MW5.out.tr hmw)
      have KS := Lib.hid hks
      have RN := Lib.hid hrn
      have hOP5 := Lib.hid (hOP.out.of (w' := wc) (fun k h1 h2 => hmw.2.2 k (by omega) (by simp; omega)))
      have HO := Lib.hid hoo
      clear hmw hks hoo hrn Rs3 hOP MW5 KS5
      obtain ⟨wq, rfl⟩ : ∃ wq : World, wq = wc := ⟨_, rfl⟩
      go_upto_block 6 with (go_at_call 43; refine (spec_many _ _ _ _ _ _ _ RN.out).mono ?_; rintro e W6 ⟨r, rfl, hr0, hrr, hm, hn⟩; have HR := Lib.hid hr0; have HM := Lib.hid hm; have HN := Lib.hid hn; clear hm hn hr0 hrr)
      have hr := HR.out
      have hbm := M.many_bd cc.2.1 (m := 12) (by omega)
      have Hn12 : Hid (r = M.mx 12 cc.2) := Lib.hid hr
      rw [← hr] at hbm
      obtain ⟨n12, hnn⟩ : ∃ n : Nat, r = n := ⟨r.toNat, by omega⟩
      subst hnn
      have h12n : n12 ≤ 12 := by omega
      clear hbm hr HR
      obtain ⟨s4, hs4⟩ : ∃ s : M.St, s = M.ms 12 cc.2 := ⟨_, rfl⟩
      replace hs4 := Lib.hid hs4
      have Rs4 : Hid (Sn w W6 R xs s4.1 s4.2) := Lib.hid (by rw [hs4.out]; exact HN.out)
      clear HN RN
      have hsz6 := Nat.le_of_eq HM.out.lt.symm
      have KS5 := Lib.hid (HM.out.bk KS.out (by simp; omega))
      have MW6' := Lib.hid (MW.out.tr HM.out.mw2)
      have hlW6 : S < W6.heap.size := KS5.out.lt
      have hOP6 := Lib.hid (hOP5.out.of (w' := W6) (fun k h1 h2 => HM.out.2.2.1 k (by simp; omega)))
      have hOC := Lib.hid (HO.out.os.osb.of (w' := W6) (fun k h1 h2 => HM.out.2.2.1 k (by simp; omega)))
      clear HM KS MW HO hOP5
      go_cut [] from 116 to 139 (fun wx => ∃ (a2 : Option Addr) (n2 c2 : Nat), Mw [R, S] W6 wx ∧ Bk wx S [.slice ao no co, .slice a1 n1 c1, .slice a2 n2 c2] 27 ∧ Oo 65 W6.heap.size wx (.slice a2 n2 c2) (M.iterB M.iS1 n12 s4).1 ∧ Sn w wx R xs (M.iterB M.iS1 n12 s4).2.1 (M.iterB M.iS1 n12 s4).2.2)
      case first =>
        go_wp2_with fail
        go_loopw [13] (fun i wx => ∃ (j : Nat) (a2 : Option Addr) (n2 c2 : Nat), j ≤ n12 ∧ i = .int .i64 (n12 - j : Int) ∧ Mw [R, S] W6 wx ∧ Bk wx S [.slice ao no co, .slice a1 n1 c1, .slice a2 n2 c2] 27 ∧ Oo 65 W6.heap.size wx (.slice a2 n2 c2) (M.iterB M.iS1 j s4).1 ∧ Sn w wx R xs (M.iterB M.iS1 j s4).2.1 (M.iterB M.iS1 j s4).2.2) (fun i _ => (intOf i).toNat)
        case atStart => exact ⟨0, _, _, _, Nat.zero_le _, by simp, Mw.refl _ _, KS5.out, Oo.nil _ _ _, Rs4.out⟩
        case round =>
          obtain ⟨j, a2, n2, c2, hj, rfl, hmw, hks, hoo, hrn⟩ := hrel
          have MWi := Lib.hid hmw
          have KSi := Lib.hid hks
          have HOi := Lib.hid hoo
          have RNi := Lib.hid hrn
          have hzi := hmw.size
          have hwl := M.iterB_len M.iS1 j s4
          obtain ⟨fb, ff⟩ := hrn.bad
          clear hmw hks hoo hrn
          by_cases hjt : j < n12
          · cases hbj : (M.iterB M.iS1 j s4).2.2
            · have HSW : Hid (M.iterB M.iS1 (j + 1) s4 = ((M.iterB M.iS1 j s4).1 ++ [(M.iS1 (M.iterB M.iS1 j s4).2).1], (M.iS1 (M.iterB M.iS1 j s4).2).2)) := Lib.hid (by rw [M.iterB, hbj]; rfl)
              generalize (M.iterB M.iS1 j s4).2 = sj at *
              generalize (M.iterB M.iS1 j s4).1 = wj at *
              rw [hbj] at fb
              have hrs := RNi.out.rngs
              have rr0 := hrs.nx
              have rr1 := hrs.ns.nx
              have rr2 := hrs.ns.ns.nx
              have rr3 := hrs.ns.ns.ns.nx
              clear hrs
              have hdec : (M.nx sj = -9223372036854775808 ∧ Hid (M.dec (M.nx sj) = 9223372036854775807)) ∨ (-9223372036854775807 ≤ M.nx sj ∧ M.nx sj ≤ 9223372036854775807 ∧ Hid (M.dec (M.nx sj) = M.nx sj - 1)) := by
                by_cases hx : M.nx sj = -9223372036854775808
                · exact .inl ⟨hx, Lib.hid (by unfold M.dec; rw [if_pos hx])⟩
                · exact .inr ⟨by have := rr0.1; omega, rr0.2, Lib.hid (by unfold M.dec; rw [if_neg hx])⟩
              rcases hdec with ⟨hx1, HD⟩ | ⟨hx1, hx2, HD⟩
              all_goals
                have hx0 : M.hd sj.1 = M.nx sj := rfl
                go_upto_region 29 with (go_at_call 44; refine (spec_next _ _ _ _ _ _ RNi.out).mono ?_; rintro e W7 ⟨r, rfl, hr0, hrr, hm, hn⟩; rw [hx0] at hr0; subst hr0; have HM := Lib.hid hm; have HN := Lib.hid hn; clear hm hn hrr)
                clear hx0
                have hz5 : wr.heap.size ≤ W7.heap.size := Nat.le_of_eq HM.out.lt.symm
                have MW5' := Lib.hid (MWi.out.tr HM.out.mw2)
                have KP5 := Lib.hid (HM.out.bk KSi.out (by simp; omega))
                have HO5 := Lib.hid ((HOi.out.mo HM.out (by simp; omega)).ob)
                have SN5 : Hid (Sn w W7 R xs (M.ns sj).1 (M.ns sj).2) := Lib.hid HN.out
                clear HM HN fb ff MWi KSi HOi RNi
                refine abs_world (fun W => Ext W7 W ∧ Bk W W7.heap.size [.int .i64 (M.dec (M.nx sj)), .int .i64 0] 65) ⟨(Ext.refl _).alloc _, by
                  have := Bk.new W7 [.int .i64 (M.dec (M.nx sj)), .int .i64 0] 65
                  have hw : wrap64 (-9223372036854775809) = 9223372036854775807 := by kernel_rfl
                  rw [HD.out] at this ⊢; first | exact this | simpa [hw] using this⟩ ?_
                clear hx1 HD
                try clear hx2
                rintro W8 ⟨e6, KQ⟩
                have hQ6 := KQ.lt
                generalize hQ : W7.heap.size = Q at *
                have hSQ : S < Q := by omega
                replace hQ := Lib.hid hQ
                have MW6 := Lib.hid (MW5'.out.tr (Mw.ofExt e6))
                have KP6 := Lib.hid (KP5.out.ext e6)
                have HO6 := Lib.hid (HO5.out.of (fun k _ h => e6.block k (by have := hQ.out; omega)))
                have SN6 := Lib.hid (SN5.out.ext e6)
                replace KQ := Lib.hid KQ
                clear e6 MW5' KP5 HO5 SN5
                go_upto_region 30 with (go_at_call 44; refine (spec_next _ _ _ _ _ _ SN6.out).mono ?_; rintro e W9 ⟨r, rfl, hr0, hrr, hm, hn⟩; have HR := Lib.hid hr0; have HM := Lib.hid hm; have HN := Lib.hid hn; have HRR := Lib.hid hrr; have KQ2 := hm.bk KQ.out (by simp; omega); have q0 := KQ2.cell (j := 0) rfl; have q1 := KQ2.cell (j := 1) rfl; have qf := KQ2.fz; have ql := KQ2.lt; replace KQ2 := Lib.hid KQ2; clear hm hn hr0 hrr)
                have hr := HR.out
                have hr' : r = M.nx (M.ns sj) := hr
                subst hr'
                clear hr HR
                refine abs_world (fun W => Mw [R, S] W6 W ∧ Bk W S [.slice ao no co, .slice a1 n1 c1, .slice a2 n2 c2] 27 ∧ Oob 65 W6.heap.size Q W (.slice a2 n2 c2) wj ∧ Sn w W R xs (M.ns (M.ns sj)).1 (M.ns (M.ns sj)).2 ∧ Bk W Q [.int .i64 (M.dec (M.nx sj)), .int .i64 (M.nx (M.ns sj))] 65) ?_ ?_
                · refine ⟨(MW6.out.tr HM.out.mw2).set (.inr (by show _ ≤ Q; omega)) _, (HM.out.bk KP6.out (by simp; omega)).set_ne (by show S ≠ Q; omega) _, HO6.out.of (fun k h1 h2 => (heap_set_ne (by show k ≠ Q; omega)).trans (HM.out.2.2.1 k (by simp; omega))), HN.out.set (by show R ≠ Q; omega) (by show _ ≤ Q; have := hB0.out; omega) _, ?_⟩
                  have := KQ2.out.set 1 (.int .i64 (M.nx (M.ns sj)))
                  simpa using this
                clear q0 q1 qf ql HM HN HRR MW6 KP6 HO6 SN6 KQ KQ2
                rintro W10 ⟨MW6, KP6, HO6, SN6, KQ⟩
                replace MW6 := Lib.hid MW6; replace KP6 := Lib.hid KP6; replace HO6 := Lib.hid HO6; replace SN6 := Lib.hid SN6; replace KQ := Lib.hid KQ
                have p0 := KP6.out.cell (j := 2) rfl
                have pf := KP6.out.fz
                have pl := KP6.out.lt
                have q0 := KQ.out.cell (j := 0) rfl
                have q1 := KQ.out.cell (j := 1) rfl
                have ql := KQ.out.lt
                clear KQ
                go_wp2_with (at_builtin; refine wpl_appB (α := Slot) (L := W6.heap.size) (M := Q) rfl _ _ 25 rfl 65 Try.underlying25 elSlot (v := .slice a2 n2 c2) (ys := [(M.iS1 sj).1]) rfl (HO6.out.of (fun k _ h => ((Ext.refl W10).alloc _).block k (by omega))) (by omega) (by simp; omega) rfl rfl (Row.lit1 (cs := [_, _]) ⟨rfl, M.dec_rng rr0, rr1, rfl⟩) (by simp) (Own.nil _ _) (by simp; omega) ?_; intro v5 w5 hO5 hg5; have HG5 := Lib.hid hg5; have HO7 := Lib.hid hO5; have hrow5 := HO6.out.own; have KP7 := Lib.hid (hg5.bk (KP6.out.ext ((Ext.refl _).alloc _)) (fun hm => by have := hrow5 _ (Option.mem_toList.1 hm); omega)); have g0 := KP7.out.cell (j := 2) rfl; have gf := KP7.out.fz; have gl := KP7.out.lt; obtain ⟨p5, k5, q5, rfl⟩ := hO5.sh; clear hO5 hg5)
                go_roundw
                case rel =>
                  refine ⟨j + 1, _, _, _, by omega, congrArg _ (by omega), ((MW6.out.tr (Mw.ofExt ((Ext.refl _).alloc _))).trF HG5.out (fun x hx => .inr (hrow5 x (Option.mem_toList.1 hx)).1)).set (by simp) _, by have := KP7.out.set 2 (.slice p5 k5 q5); simpa using this, ?_, ?_⟩
                  · rw [HSW.out]; exact HO7.out.set (by show S < W6.heap.size; omega) _
                  · rw [HSW.out]
                    exact ((SN6.out.ext ((Ext.refl _).alloc _)).mw HG5.out (fun hm => by have := hrow5 _ (Option.mem_toList.1 hm); omega) (fun x hx => by have := hrow5 x (Option.mem_toList.1 hx); have := hB0.out; omega)).set (by show R ≠ S; omega) (by show _ ≤ S; have := hB0.out; omega) _
                case measure => simp [intOf]; omega
            · have HEX : Hid (M.iterB M.iS1 n12 s4 = M.iterB M.iS1 j s4) := Lib.hid (by
                have := M.iterB_bad M.iS1 s4 (n := j) (n12 - j) hbj
                rwa [show j + (n12 - j) = n12 by omega] at this)
              rw [hbj] at fb
              go_wp2
              go_meet
              exact ⟨_, _, _, MWi.out, KSi.out, by rw [HEX.out]; exact HOi.out, by rw [HEX.out]; exact RNi.out⟩
          · obtain rfl : j = n12 := by omega
            go_wp2
            go_meet
            exact ⟨_, _, _, MWi.out, KSi.out, HOi.out, RNi.out⟩
      case rest =>
        obtain ⟨a2, n2, c2, hmw, hks, hoo, hrn⟩ := hcut
        have HSL : Hid (M.sSs cc.2 = M.iterB M.iS1 n12 s4) := Lib.hid (by unfold M.sSs; rw [← Hn12.out, ← hs4.out, Int.toNat_natCast])
        generalize M.iterB M.iS1 n12 s4 = ss at *
        have HALL : Hid (M.sAll (xs, false) = ⟨pp.1, cc.1, ss.1⟩ ∧ M.sEnd (xs, false) = ss.2) := Lib.hid (by
          unfold M.sAll M.sEnd; rw [HPS.out, HCS.out, HSL.out]; exact ⟨rfl, rfl⟩)
        have RF := M.readR_f (xs := xs)
        have RT := M.readR_t (xs := xs)
        rw [HALL.out.1, HALL.out.2] at RF RT
        generalize hst : (⟨pp.1, cc.1, ss.1⟩ : Setup) = st at *
        have KBe := Lib.hid ((MW6'.out.tr hmw).bk KB1.out (by simp; omega))
        have EW := Lib.hid hrn.2.1
        obtain ⟨F0, SP, OP, hF0⟩ := hOP6.out.of (w' := wc) (fun k h1 h2 => hmw.2.2 k (by omega) (by simp; omega))
        obtain ⟨F1, SC, OC, hF1⟩ := hOC.out.of (w' := wc) (fun k h1 h2 => hmw.2.2 k (by omega) (by simp; omega))
        obtain ⟨F2, SS2, OS⟩ := hoo.os
        have RV : Hid (Rv wc (.agg #[.slice ao no co, .slice a1 n1 c1, .slice a2 n2 c2]) st) := Lib.hid (by
          rw [← hst]; exact ⟨_, _, rfl, _, _, _, _, _, _, rfl, SP, SC, SS2, rfl⟩)
        have RVF : Hid (∃ F, GT.enc wc [.slice ao no co, .slice a1 n1 c1, .slice a2 n2 c2] st F ∧ ∀ k ∈ F, B0 < k) := Lib.hid (by
          rw [← hst]
          refine ⟨_, ⟨_, _, _, _, _, _, rfl, SP, SC, SS2, rfl⟩, fun k hk => ?_⟩
          rcases List.mem_append.1 hk with hk | hk
          · have := (OP.2 k hk).1; omega
          · rcases List.mem_append.1 hk with hk | hk
            · have := (OC.2 k hk).1; omega
            · have := (OS.2 k hk).1; omega)
        obtain ⟨_, _, pp0, ap0, cp0, hpl0, hleft, hbk, _⟩ := id hrn
        have f1 := hbk.cell (j := 1) rfl
        have fb := hbk.cell (j := 2) rfl
        have ff := hbk.fz
        have k0 := hks.cell (j := 0) rfl
        have k1 := hks.cell (j := 1) rfl
        have k2 := hks.cell (j := 2) rfl
        have b0 := KBe.out.cell (j := 0) rfl
        have b1 := KBe.out.cell (j := 1) rfl
        have b2 := KBe.out.cell (j := 2) rfl
        have bf := KBe.out.fz
        have bl := KBe.out.lt
        have KSe := Lib.hid hks
        clear SP OP hF0 SC OC hF1 SS2 OS hOP6 hOC hoo KS5 MW6' Rs4 KB1 hmw HPS HCS HSL hks hrn hbk
        replace RF := Lib.hid RF
        replace RT := Lib.hid RT
        replace hst := Lib.hid hst
        replace hleft := Lib.hid hleft
        generalize ss.2.2 = bad at *
        cases bad
        · by_cases hpe : pp0 = xs.length
          · subst hpe
            have HL : Hid (ss.2.1 = []) := Lib.hid (by rw [hleft.out]; exact List.drop_of_length_le (Nat.le_refl _))
            cases g : M.setv st
            · have HMM := Lib.hid (RF.out (.inr (.inr g)))
              go_upto_region 32 with (go_at_call 36; refine (spec_SetupValid _ st _ RV.out).mono ?_; rintro e w6 ⟨he, he6⟩; rw [g] at he; subst he; have E6 := Lib.hid he6; have y0 := (KBe.out.ext E6.out).cell (j := 0) rfl; have y1 := (KBe.out.ext E6.out).cell (j := 1) rfl; have y2 := (KBe.out.ext E6.out).cell (j := 2) rfl; have yf := (KBe.out.ext E6.out).fz; have yl := (KBe.out.ext E6.out).lt; clear he6)
              go_wp2
              refine bodyPost_ret (v := .tuple #[.agg #[.slice none 0 0, .slice none 0 0, .slice none 0 0], .bool false]) (by simp [results, Try.results16, go_sem, y0, y1, y2]) rfl ⟨_, by rw [HMM.out], by rw [HMM.out]; exact rvb_zero, ?_⟩
              exact (((EW.out.tr E6.out).set (by show _ ≤ B0; have := hB0.out; omega) _).set (by show _ ≤ B0; have := hB0.out; omega) _).set (by show _ ≤ B0; have := hB0.out; omega) _
            · have HMM := Lib.hid (RT.out rfl HL.out g)
              go_upto_region 33 with (go_at_call 36; refine (spec_SetupValid _ st _ RV.out).mono ?_; rintro e w6 ⟨he, he6⟩; rw [g] at he; subst he; have E6 := Lib.hid he6; have j0 := (KSe.out.ext he6).cell (j := 0) rfl; have j1 := (KSe.out.ext he6).cell (j := 1) rfl; have j2 := (KSe.out.ext he6).cell (j := 2) rfl; have y0 := (KBe.out.ext E6.out).cell (j := 0) rfl; have y1 := (KBe.out.ext E6.out).cell (j := 1) rfl; have y2 := (KBe.out.ext E6.out).cell (j := 2) rfl; have yf := (KBe.out.ext E6.out).fz; have yl := (KBe.out.ext E6.out).lt; clear he6)
              go_wp2
              refine bodyPost_ret (v := .tuple #[.agg #[.slice ao no co, .slice a1 n1 c1, .slice a2 n2 c2], .bool true]) (by simp [results, Try.results16, go_sem, y0, y1, y2]) rfl ⟨_, by rw [HMM.out], ?_, ?_⟩
              · rw [HMM.out]
                obtain ⟨F, henc, hF⟩ := RVF.out
                exact ⟨_, F, rfl, GT.keep (GT.ext henc E6.out) (fun k hk => by
                  have := hF k hk
                  rw [heap_set_ne (by show k ≠ B0; omega), heap_set_ne (by show k ≠ B0; omega), heap_set_ne (by show k ≠ B0; omega)]), fun k hk => by have := hF k hk; have := hB0.out; omega⟩
              · exact (((EW.out.tr E6.out).set (by show _ ≤ B0; have := hB0.out; omega) _).set (by show _ ≤ B0; have := hB0.out; omega) _).set (by show _ ≤ B0; have := hB0.out; omega) _
          · have HMM := Lib.hid (RF.out (.inr (.inl (fun e => hpe (by rw [hleft.out] at e; have := List.drop_eq_nil_iff.1 e; omega)))))
            go_upto_region 32 with (fail)
            go_wp2
            refine bodyPost_ret (v := .tuple #[.agg #[.slice none 0 0, .slice none 0 0, .slice none 0 0], .bool false]) (by simp [results, Try.results16, go_sem, b0, b1, b2]) rfl ⟨_, by rw [HMM.out], by rw [HMM.out]; exact rvb_zero, ?_⟩
            exact ((EW.out.set (by show _ ≤ B0; have := hB0.out; omega) _).set (by show _ ≤ B0; have := hB0.out; omega) _).set (by show _ ≤ B0; have := hB0.out; omega) _
        · have HMM := Lib.hid (RF.out (.inl rfl))
          go_upto_region 32 with (fail)
          go_wp2
          refine bodyPost_ret (v := .tuple #[.agg #[.slice none 0 0, .slice none 0 0, .slice none 0 0], .bool false]) (by simp [results, Try.results16, go_sem, b0, b1, b2]) rfl ⟨_, by rw [HMM.out], by rw [HMM.out]; exact rvb_zero, ?_⟩
          exact ((EW.out.set (by show _ ≤ B0; have := hB0.out; omega) _).set (by show _ ≤ B0; have := hB0.out; omega) _).set (by show _ ≤ B0; have := hB0.out; omega) _
end Sk

