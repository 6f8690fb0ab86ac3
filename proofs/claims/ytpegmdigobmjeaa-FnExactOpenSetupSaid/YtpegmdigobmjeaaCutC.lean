/- Contracts of functions of the given program, and lemmas for them: each theorem states the condition under which it holds. -/
import Derived.Test.YtpegmdigobmjeaaChecked
import Derived.Deep.CutBlock
import Derived.Deep.CutRange
import Derived.Test.YtpegmdigobmjeaaDel
namespace Sk
open Go Go.Proofs Go.RowKit
set_option maxHeartbeats 4000000
set_option maxRecDepth 100000
set_option linter.unusedVariables false
/-- May the channel stay? -/
def M.ck (q : List (List Bool)) (c : Channel) : Bool := M.at2 q c.From.toNat c.To.toNat && (!(c.Kind == 3) || M.at2 q c.To.toNat c.From.toNat)
theorem M.pv_get {q : List (List Bool)} {n : Nat} (h : M.pv q n = true) {i j : Nat} (hi : i < n) (hj : j < n) : ∃ r x, q[i]? = some r ∧ r.length = n ∧ r[j]? = some x ∧ M.at2 q i j = x := by
  have hl := M.pv_len h
  have hr : q[i]? = some q[i] := List.getElem?_eq_getElem (by omega)
  have hrl := M.pv_row h hr
  have hx : q[i][j]? = some q[i][j] := List.getElem?_eq_getElem (by omega)
  exact ⟨_, _, hr, hrl, hx, M.at2_of hr hx⟩
theorem impl_CutChannels_1 (v : Value) (x : Channel) (b1 : Nat) (qa : Option Addr) (qc n i j : Nat) (q : List (List Bool)) (w : World) (h : Rv w v x) (hb1 : b1 < w.heap.size) (hc1 : w.cell? ⟨b1, 0, none⟩ = some (.slice qa n qc))
    (hq : Rs w (.slice qa n qc) q) (hp : M.pv q n = true) (hn : n ≤ 5) (hi : x.From = i) (hj : x.To = j) (hin : i < n) (hjn : j < n) :
    Calls Try.prog 75 #[v, .pointer (some ⟨b1, 0, none⟩)] w fun e w' => e = .returned (.bool (!M.ck q x)) ∧ Ext w w' := by
  obtain ⟨rfl, hr0, hr1, hr2, hr3⟩ := h.openChannel
  clear h
  have hql := M.pv_len hp
  obtain ⟨b, o, r, ra, rc, rfl, lt1, hr, hd1, hrs, _⟩ := hq.atList i (by omega)
  obtain ⟨b', o', s, sa, sc, hbo, lt2, hs, hd2, hss, _⟩ := hq.atList j (by omega)
  cases hbo
  have hrl := M.pv_row hp hr.out
  have hsl := M.pv_row hp hs.out
  rw [hrl] at hd1 hrs
  rw [hsl] at hd2 hss
  obtain ⟨b5, o5, y, rfl, lt5, hy, hd5⟩ := hrs.out.atBool j (by omega)
  obtain ⟨b6, o6, z, rfl, lt6, hz, hd6⟩ := hss.out.atBool i (by omega)
  have hm : Hid (M.ck q x = (y && (!(x.Kind == 3) || z))) := Lib.hid (by
    unfold M.ck; rw [hi, hj, Int.toNat_natCast, Int.toNat_natCast, M.at2_of hr.out hy.out, M.at2_of hs.out hz.out])
  rw [hi, hj]
  clear hi hj hq hp hr hs hy hz hrs hss
  cases y <;> cases hk : (x.Kind == 3) <;> cases z
  all_goals
    rw [hk] at hm
    go_enter Try.func75, Try.ntmps75
    go_upto_region 1 with (fail)
    go_big_quiet (fail)
    go_wp2
    go_ret
    exact ⟨wp_cond_ret (by rw [hm.out]; rfl), ((Ext.refl w).alloc _).drewN _⟩
noncomputable def M.cut (s : Setup) (q : List (List Bool)) : Setup := if M.setv s && M.pv q s.Parts.length then { s with Channels := s.Channels.filter (M.ck q) } else default
theorem M.cut_t {s : Setup} {q : List (List Bool)} (h : M.setv s = true) (k : M.pv q s.Parts.length = true) : M.cut s q = { s with Channels := s.Channels.filter (M.ck q) } := if_pos (by rw [h, k]; rfl)
theorem M.cut_f {s : Setup} {q : List (List Bool)} (h : M.setv s = false ∨ M.pv q s.Parts.length = false) : M.cut s q = default := if_neg (by rcases h with h | h <;> rw [h] <;> simp)
theorem ov_zero {α : Type} [GT α] {L : Nat} {w : World} : Ov L w (.agg (GT.zc α).toArray) (default : α) := ⟨_, [], rfl, GT.zero w, Own.nil _ _⟩
theorem M.cv_nat {s : Setup} (h : M.setv s = true) {x : Channel} (hx : x ∈ s.Channels) : ∃ i j : Nat, x.From = i ∧ x.To = j ∧ i < s.Parts.length ∧ j < s.Parts.length := by
  have h1 := M.setv_csv h
  unfold M.csv at h1
  simp only [Bool.and_eq_true] at h1
  have h2 := List.all_eq_true.1 h1.2.2 x hx
  obtain ⟨_, h3, h4, _⟩ := M.cv_iff.1 h2
  exact ⟨x.From.toNat, x.To.toNat, by omega, by omega, by omega, by omega⟩
theorem impl_CutChannels (v v1 : Value) (s : Setup) (q : List (List Bool)) (w : World) (h : Rv w v s) (hq : Rs w v1 q) (hn : GT.tot s ≤ 1048576) :
    Calls Try.prog 31 #[v, v1] w fun e w' => ∃ v', e = .returned v' ∧ Ov w.heap.size w' v' (M.cut s q) ∧ Ext w w' := by
  have H0 := Lib.hid h
  have HQ0 := Lib.hid hq
  obtain ⟨aq, cq, rfl, hlq⟩ := hq.form
  obtain ⟨a0, c0, a1, c1, a2, c2, rfl, h0, hl0, h1, hl1, h2, hl2⟩ := h.openSetup
  clear h h0 h1 h2 hq
  have hnl : s.Parts.length ≤ 1048576 := Nat.le_trans tot_len (by have : GT.tot s = GT.tot s.Parts + GT.tot s.Channels + GT.tot s.Slots := rfl; omega)
  go_enter Try.func31, Try.ntmps31
  go_upto_region 1 with (fail)
  refine abs_world (fun W => Ext w W ∧ Bk W w.heap.size [.slice a0 s.Parts.length c0, .slice a1 s.Channels.length c1, .slice a2 s.Slots.length c2] 27 ∧ Bk W (w.heap.size + 1) [.slice aq q.length cq] 42 ∧ Bk W (w.heap.size + 1 + 1) [.slice none 0 0, .slice none 0 0, .slice none 0 0] 27) ⟨(((Ext.refl _).alloc _).alloc _).alloc _, (Bk.new _ _ _).ext (((Ext.refl _).alloc _).alloc _), (Bk.new1 _ _ _ _).ext ((Ext.refl _).alloc _), Bk.new2 _ _ _ _ _⟩ ?_
  rintro w0 ⟨E, KA, KB, KC⟩
  have ltC := KC.lt
  have u0 := KA.cell (j := 0) rfl
  have u1 := KA.cell (j := 1) rfl
  have u2 := KA.cell (j := 2) rfl
  have u3 := KB.cell (j := 0) rfl
  replace E := Lib.hid E; replace KA := Lib.hid KA; replace KB := Lib.hid KB; replace KC := Lib.hid KC
  cases g : M.setv s
  · have hm := Lib.hid (M.cut_f (q := q) (.inl g))
    go_upto_region 2 with (go_at_call 38; refine (impl_SetupValid _ s _ (H0.out.ext E.out)).mono ?_; rintro e w1 ⟨rfl, he1⟩; have E1 := Lib.hid he1; clear he1)
    have z0 := (KC.out.ext E1.out).cell (j := 0) rfl
    have z1 := (KC.out.ext E1.out).cell (j := 1) rfl
    have z2 := (KC.out.ext E1.out).cell (j := 2) rfl
    have zf := (KC.out.ext E1.out).fz
    go_wp2
    refine bodyPost_ret (v := .agg #[.slice none 0 0, .slice none 0 0, .slice none 0 0]) (by simp [results, Try.results31, go_sem, z0, z1, z2]) rfl ⟨_, rfl, by rw [hm.out]; exact ov_zero (α := Setup), ?_⟩
    exact ((((E.out.tr E1.out)).set (by simp <;> omega) _).set (by simp <;> omega) _).set (by simp <;> omega) _
  · have hp5 := M.setv_parts g
    cases gk : M.pv q s.Parts.length
    · have hm := Lib.hid (M.cut_f (s := s) (.inr gk))
      go_upto_region 2 with (first
        | (go_at_call 38; refine (impl_SetupValid _ s _ (H0.out.ext E.out)).mono ?_; rintro e w1 ⟨rfl, he1⟩; have t0 := (KA.out.ext he1).cell (j := 0) rfl; have t1 := (KB.out.ext he1).cell (j := 0) rfl; have E1 := Lib.hid he1; clear he1)
        | (go_at_call 69; refine (implPolicyValid _ q _ _ (HQ0.out.ext (E.out.tr E1.out))).mono ?_; rintro e w2 ⟨rfl, hq2⟩; have E2 := Lib.hid (E1.out.tr hq2.ext); clear hq2))
      have z0 := (KC.out.ext E2.out).cell (j := 0) rfl
      have z1 := (KC.out.ext E2.out).cell (j := 1) rfl
      have z2 := (KC.out.ext E2.out).cell (j := 2) rfl
      have zf := (KC.out.ext E2.out).fz
      go_wp2
      refine bodyPost_ret (v := .agg #[.slice none 0 0, .slice none 0 0, .slice none 0 0]) (by simp [results, Try.results31, go_sem, z0, z1, z2]) rfl ⟨_, rfl, by rw [hm.out]; exact ov_zero (α := Setup), ?_⟩
      exact ((((E.out.tr E2.out)).set (by simp <;> omega) _).set (by simp <;> omega) _).set (by simp <;> omega) _
    · have hm := Lib.hid (M.cut_t g gk)
      go_upto_region 4 with (first
        | (go_at_call 38; refine (impl_SetupValid _ s _ (H0.out.ext E.out)).mono ?_; rintro e w1 ⟨rfl, he1⟩; have t0 := (KA.out.ext he1).cell (j := 0) rfl; have t1 := (KB.out.ext he1).cell (j := 0) rfl; have E1 := Lib.hid he1; clear he1)
        | (go_at_call 69; refine (implPolicyValid _ q _ _ (HQ0.out.ext (E.out.tr E1.out))).mono ?_; rintro e w2 ⟨rfl, hq2⟩; have E2 := Lib.hid (E1.out.tr hq2.ext); have s0 := (KA.out.ext E2.out).cell (j := 0) rfl; have s1 := (KA.out.ext E2.out).cell (j := 1) rfl; have s2 := (KA.out.ext E2.out).cell (j := 2) rfl; clear hq2)
        | (go_at_call 41; refine (impl_copyOf_Setup _ s _ (H0.out.ext (E.out.tr E2.out)) hn).mono ?_; rintro e w3 ⟨v3, rfl, ⟨_, _, rfl, ⟨x0, x1, x2, F0, F1, F2, rfl, S0, S1, S2, rfl⟩, ow3⟩, he3⟩; have HS0 := Lib.hid S0; have HS1 := Lib.hid S1; have HS2 := Lib.hid S2; have HOW := Lib.hid ow3; have E3 := Lib.hid he3; obtain ⟨p0, q0, rfl, _⟩ := id S0; obtain ⟨p1, q1, rfl, _⟩ := id S1; obtain ⟨p2, q2, rfl, _⟩ := id S2; clear S0 S1 S2 ow3 he3))
      refine abs_world (fun W => Ext w3 W ∧ Bk W w3.heap.size [.slice p0 s.Parts.length q0, .slice p1 s.Channels.length q1, .slice p2 s.Slots.length q2] 27) ⟨(Ext.refl _).alloc _, Bk.new _ _ _⟩ ?_
      rintro W ⟨EX, BX⟩
      have EXW := Lib.hid EX
      have E2W := Lib.hid (E3.out.tr EX)
      have hF : ∀ k ∈ F0 ++ (F1 ++ F2), k < w3.heap.size ∧ w2.heap.size ≤ k := fun k hk => ⟨HOW.out.lt hk, (HOW.out.2 k hk).1⟩
      have hl02 : w0.heap.size ≤ w2.heap.size := E2.out.sz
      have hl0 := E.out.sz
      have hl3 := E3.out.sz
      have hne3 : w.heap.size + 1 + 1 ≠ w3.heap.size := by omega
      have hne4 : w3.heap.size ≠ w.heap.size + 1 + 1 := by omega
      have hchl := M.setv_chans g
      have HDEL := Lib.hid (del_Channel 75 #[.pointer (some ⟨w.heap.size + 1, 0, none⟩)] (fun x => !M.ck q x) _ s.Channels w2 W w2.heap.size F1 (HS1.out.ext EX) (HOW.out.right.left.ext EX) E2W.out (Nat.le_refl _) (enter_of Try.func75 (by kernel_rfl) (by kernel_rfl))
        (fun w1 v x he hx hv => by
          obtain ⟨i, j, hi, hj, hin, hjn⟩ := M.cv_nat g hx
          have hql := M.pv_len gk
          have := impl_CutChannels_1 v x (w.heap.size + 1) aq cq s.Parts.length i j q w1 hv (by have := he.sz; omega) (by rw [← hql]; exact (KB.out.ext (E2.out.tr he)).cell (j := 0) rfl) (by rw [← hql]; exact HQ0.out.ext (E.out.tr (E2.out.tr he))) gk hp5 hi hj hin hjn
          exact this))
      have x0 := BX.cell (j := 0) rfl
      have x1 := BX.cell (j := 1) rfl
      have x2 := BX.cell (j := 2) rfl
      have xl := BX.lt
      replace BX := Lib.hid BX
      clear EX
      have hff : Hid ((fun x => !(!M.ck q x)) = M.ck q) := Lib.hid (by funext x; simp)
      replace hF := Lib.hid hF
      go_wp2_with (first
        | (go_at_call 74; refine HDEL.out.mono ?_; rw [hff.out]; rintro e w5 ⟨v5, rfl, hr5, row, hg5, hrow⟩
           have hr1 : ∀ k, row = some k → k ∈ F0 ++ (F1 ++ F2) := fun k hk => List.mem_append_right _ (List.mem_append_left _ (hrow k hk))
           have HG := Lib.hid hg5
           have G0 := Lib.hid ((HS0.out.ext EXW.out).grown hg5 (fun k hk e => HOW.out.parted k hk (List.mem_append_left _ (hrow k e))))
           have G2 := Lib.hid ((HS2.out.ext EXW.out).grown hg5 (fun k hk e => HOW.out.right.parted k (hrow k e) hk))
           have O0 := Lib.hid ((HOW.out.left.ext EXW.out).grown hg5 (fun k hk e => HOW.out.parted k hk (List.mem_append_left _ (hrow k e))))
           have O2 := Lib.hid ((HOW.out.right.right.ext EXW.out).grown hg5 (fun k hk e => HOW.out.right.parted k (hrow k e) hk))
           have B5 := Lib.hid (BX.out.grown hg5 (fun e => by have := (hF.out _ (hr1 _ e)).1; omega))
           have C5 := Lib.hid ((KC.out.ext (E2.out.tr E2W.out)).grown hg5 (fun e => by have := (hF.out _ (hr1 _ e)).2; omega))
           have E5 := Lib.hid (Ext.grown (E.out.tr (E2.out.tr E2W.out)) hg5 (fun k hk => by have := (hF.out _ (hr1 _ hk)).2; omega))
           obtain ⟨G, hG⟩ := hr5
           have HG5 := Lib.hid hG
           obtain ⟨p5, q5, rfl, _⟩ := id hG
           clear hg5 hrow hr1 hG HDEL)
        | (go_at_call 73; refine (impl_clone_Channel _ _ _ _ HG5.out (Nat.le_trans (List.length_filter_le _ _) (by omega))).mono ?_; rintro e w6 ⟨v6, F6, rfl, ho6, _, _, he6⟩
           obtain ⟨G6, s6, ow6⟩ := ho6.flat
           have S6 := Lib.hid s6
           have O6 := Lib.hid ow6
           have E6 := Lib.hid he6
           obtain ⟨p6, q6, rfl, _⟩ := id s6
           have y0 := (B5.out.ext he6).cell (j := 0) rfl
           have y1 := (B5.out.ext he6).cell (j := 1) rfl
           have y2 := (B5.out.ext he6).cell (j := 2) rfl
           have yf := (B5.out.ext he6).fz
           have z0 := (C5.out.ext he6).cell (j := 0) rfl
           have z1 := (C5.out.ext he6).cell (j := 1) rfl
           have z2 := (C5.out.ext he6).cell (j := 2) rfl
           have zf := (C5.out.ext he6).fz
           clear s6 ow6 he6 ho6))
      have h3 : ∀ {L : List Nat}, (∀ k ∈ L, k ∈ F0 ++ (F1 ++ F2)) → w3.heap.size ∉ L ∧ w.heap.size + 1 + 1 ∉ L := fun hL => ⟨fun hm => by have := (hF.out _ (hL _ hm)).1; omega, fun hm => by have := (hF.out _ (hL _ hm)).2; omega⟩
      have n0 := h3 (L := F0) (fun k hk => List.mem_append_left _ hk)
      have n2 := h3 (L := F2) (fun k hk => List.mem_append_right _ (List.mem_append_right _ hk))
      have l5 := B5.out.lt
      have c5 := C5.out.lt
      have n6 : w3.heap.size ∉ G6 ∧ w.heap.size + 1 + 1 ∉ G6 := ⟨fun hm => by have := (O6.out.2 _ hm).1; omega, fun hm => by have := (O6.out.2 _ hm).1; omega⟩
      have ha02 : Apart F0 F2 := fun k h1 h2 => HOW.out.parted k h1 (List.mem_append_right _ h2)
      have OO : Own w2.heap.size w6 (F0 ++ (G6 ++ F2)) := (O0.out.ext E6.out).join ((O6.out.mono (by omega)).join (O2.out.ext E6.out) (Apart.symm (Apart.far (fun k hk => O2.out.lt hk) (fun k hk => (O6.out.2 k hk).1)))) (fun k h1 h2 => (List.mem_append.1 h2).elim (fun h2 => by have := O0.out.lt h1; have := (O6.out.2 k h2).1; omega) (fun h2 => ha02 k h1 h2))
      refine bodyPost_ret (v := .agg #[.slice p0 s.Parts.length q0, .slice p6 (s.Channels.filter (M.ck q)).length q6, .slice p2 s.Slots.length q2]) (by simp [results, Try.results31, go_sem, z0, z1, z2, hne3, hne4]) rfl ⟨_, rfl, ?_, ?_⟩
      · rw [hm.out]
        exact ⟨_, _, rfl, ⟨_, _, _, _, _, _, rfl, ((((G0.out.ext E6.out).set n0.1 _).set n0.2 _).set n0.2 _).set n0.2 _, (((S6.out.set n6.1 _).set n6.2 _).set n6.2 _).set n6.2 _, ((((G2.out.ext E6.out).set n2.1 _).set n2.2 _).set n2.2 _).set n2.2 _, rfl⟩, ((((OO.mono (by omega)).set _ _).set _ _).set _ _).set _ _⟩
      · exact ((((E5.out.tr E6.out).set (by show _ ≤ w3.heap.size; omega) _).set (by simp <;> omega) _).set (by simp <;> omega) _).set (by simp <;> omega) _
end Sk

