/- Contracts of functions of the given program, and lemmas for them: each theorem states the condition under which it holds. -/
import Derived.Test.YtiepblmmldgmgaaChecked
import Derived.Test.YtiepblmmldgmgaaLeastS
import Derived.Test.YtiepblmmldgmgaaNums
namespace Sk
open Go Go.Proofs Go.RowKit
set_option maxHeartbeats 800000
set_option maxRecDepth 100000
set_option linter.unusedVariables false
set_option linter.unusedSimpArgs false
def M.at2 (p : List (List Bool)) (a b : Nat) : Bool := (p.getD a []).getD b false
def M.gcell (l q : List (List Bool)) (a b : Nat) : List Int := if M.at2 l a b && !M.at2 q a b then [10 * (a : Int) + b] else []
def M.grow (l q : List (List Bool)) (n a : Nat) : List Int := (List.range n).flatMap (M.gcell l q a)
def M.gaps (l q : List (List Bool)) (n : Nat) : List Int := (List.range n).flatMap (M.grow l q n)
noncomputable def M.policyGaps (s : Setup) (q : List (List Bool)) : List Int := if M.setv s && M.pv q s.Parts.length then M.gaps (M.least s.Channels s.Parts.length) q s.Parts.length else []
theorem M.policyGaps_t {s : Setup} {q : List (List Bool)} (h : M.setv s = true) (k : M.pv q s.Parts.length = true) : M.policyGaps s q = M.gaps (M.least s.Channels s.Parts.length) q s.Parts.length := if_pos (by rw [h, k]; rfl)
theorem M.policyGaps_f {s : Setup} {q : List (List Bool)} (h : M.setv s = false ∨ M.pv q s.Parts.length = false) : M.policyGaps s q = [] := if_neg (by rcases h with h | h <;> rw [h] <;> simp)
theorem range_fm {β : Type} (f : Nat → List β) {n k : Nat} (h : k < n) : ((List.range n).take (k + 1)).flatMap f = ((List.range n).take k).flatMap f ++ f k :=
  flatMap_take f (x := k) (by simp [h])
theorem fm_len {β : Type} (f : Nat → List β) (B n k : Nat) (h : ∀ i, (f i).length ≤ B) : (((List.range n).take k).flatMap f).length ≤ n * B := by
  have := flat_len f (List.range n) k B (fun x _ => h x); simpa using this
theorem M.gcell_len (l q : List (List Bool)) (a b : Nat) : (M.gcell l q a b).length ≤ 1 := by unfold M.gcell; split <;> simp
theorem M.grow_len (l q : List (List Bool)) (n a : Nat) : (M.grow l q n a).length ≤ n := by
  have := fm_len (M.gcell l q a) 1 n n (M.gcell_len l q a)
  rw [List.take_of_length_le (by simp)] at this
  simpa [M.grow] using this
theorem M.gcell_t {l q : List (List Bool)} {a b : Nat} (h : M.at2 l a b = true) (k : M.at2 q a b = false) : M.gcell l q a b = [10 * (a : Int) + b] := if_pos (by rw [h, k]; rfl)
theorem M.gcell_f {l q : List (List Bool)} {a b : Nat} (h : M.at2 l a b = false ∨ M.at2 q a b = true) : M.gcell l q a b = [] := if_neg (by rcases h with h | h <;> rw [h] <;> simp)
theorem M.at2_of {p : List (List Bool)} {a b : Nat} {r : List Bool} {x : Bool} (h : p[a]? = some r) (k : r[b]? = some x) : M.at2 p a b = x := by
  unfold M.at2; rw [List.getD_eq_getElem?_getD (l := p), h, Option.getD_some, List.getD_eq_getElem?_getD, k]; rfl
theorem M.least_row {cs : List Channel} {n k : Nat} {r : List Bool} (h : (M.least cs n)[k]? = some r) : r.length = n := by
  have hm := List.mem_of_getElem? h
  obtain ⟨i, _, rfl⟩ := List.mem_map.1 hm
  simp
theorem M.pv_row {q : List (List Bool)} {n : Nat} (h : M.pv q n = true) {k : Nat} {r : List Bool} (hk : q[k]? = some r) : r.length = n := by
  have := (Bo.iff.1 h).2.2.2 k r hk; omega
theorem M.pv_len {q : List (List Bool)} {n : Nat} (h : M.pv q n = true) : q.length = n := by have := (Bo.iff.1 h).1; omega
theorem rng_small {n : Int} (h : 0 ≤ n) (k : n ≤ 100000) : rng n := ⟨by omega, by omega⟩
theorem impl_PolicyGaps (v v1 : Value) (s : Setup) (q : List (List Bool)) (w : World) (h : Rv w v s) (hq : Rs w v1 q) :
    Calls Try.prog 22 #[v, v1] w fun e w' => ∃ v', e = .returned v' ∧ Os w.heap.size w' v' (M.policyGaps s q) ∧ Ext w w' := by
  have H0 := Lib.hid h
  have HQ0 := Lib.hid hq
  obtain ⟨aq, cq, rfl, hlq⟩ := hq.form
  obtain ⟨a0, c0, a1, c1, a2, c2, rfl, h0, hl0, h1, hl1, h2, hl2⟩ := h.openSetup
  clear h h0 h1 h2 hq
  have e0 := Lib.hid ((Ext.refl w).alloc (.cells #[.slice a0 s.Parts.length c0, .slice a1 s.Channels.length c1, .slice a2 s.Slots.length c2] 27))
  cases g : M.setv s
  · have hm := Lib.hid (M.policyGaps_f (q := q) (.inl g))
    go_enter Try.func22, Try.ntmps22
    go_wp2_with (go_at_call 17; refine (impl_SetupValid _ s _ (H0.out.ext e0.out)).mono ?_; rintro e w1 ⟨rfl, he1⟩; have E1 := Lib.hid (e0.out.tr he1); clear he1)
    go_ret
    exact ⟨_, rfl, by rw [hm.out]; exact (Oo.nil (α := Int) 3 w.heap.size _).os, E1.out⟩
  · cases gk : M.pv q s.Parts.length
    · have hm := Lib.hid (M.policyGaps_f (s := s) (.inr gk))
      go_enter Try.func22, Try.ntmps22
      go_wp2_with (first
        | (go_at_call 17; refine (impl_SetupValid _ s _ (H0.out.ext e0.out)).mono ?_; rintro e w1 ⟨rfl, he1⟩; obtain ⟨hz, hx0, hx1, hx2⟩ := box3 he1; have E1 := Lib.hid (e0.out.tr he1); clear he1)
        | (go_at_call 23; refine (implPolicyValid _ q _ _ (HQ0.out.ext E1.out)).mono ?_; rintro e w2 ⟨rfl, hq2⟩; have E2 := Lib.hid (E1.out.tr hq2.ext); clear hq2))
      go_ret
      exact ⟨_, rfl, by rw [hm.out]; exact (Oo.nil (α := Int) 3 w.heap.size _).os, E2.out⟩
    · have hm := Lib.hid (M.policyGaps_t g gk)
      have hp5 := M.setv_parts g
      have hql := M.pv_len gk
      have HK := Lib.hid gk
      generalize hn' : s.Parts.length = n at *
      have HL := Lib.hid (M.least_len s.Channels n)
      have hlc := M.least_len s.Channels n
      subst hql
      generalize hn2 : q.length = n at *
      go_enter Try.func22, Try.ntmps22
      go_wp2_with (first
        | (go_at_call 17; refine (impl_SetupValid _ s _ (H0.out.ext e0.out)).mono ?_; rintro e w1 ⟨rfl, he1⟩; obtain ⟨hz, hx0, hx1, hx2⟩ := box3 he1; have E1 := Lib.hid (e0.out.tr he1); clear he1)
        | (go_at_call 23; refine (implPolicyValid _ q _ _ (HQ0.out.ext E1.out)).mono ?_; rintro e w2 ⟨rfl, hq2⟩; obtain ⟨hcb, _⟩ := bcell hq2.ext; have X2 := Lib.hid hq2.ext; have E2 := Lib.hid (E1.out.tr hq2.ext); clear hq2)
        | (go_at_call 49; refine (impl_least _ s _ (H0.out.ext E2.out) (by omega)).mono ?_; rintro e w3 ⟨v3, rfl, ho, he3⟩; rw [hn'] at ho; have HO := Lib.hid ho.rs; obtain ⟨a3, c3, rfl, _⟩ := ho.form; have E3 := Lib.hid (E2.out.tr he3); clear ho he3))
      have hn5 : n ≤ 5 := by omega
      go_loopw [5, 24] (fun out i wr => ∃ (k : Nat) (ao : Option Addr) (no co : Nat), k ≤ n ∧ i = .int .i64 k ∧ out = .slice ao no co ∧ Oo 3 w3.heap.size wr (.slice ao no co) (((List.range n).take k).flatMap (M.grow (M.least s.Channels n) q n)) ∧ Ext w3 wr) (fun _ i _ => n - (intOf i).toNat)
      case atStart => exact ⟨0, _, _, _, Nat.zero_le _, rfl, rfl, Oo.nil _ _ _, Ext.refl _⟩
      case round =>
        obtain ⟨k, ao, no, co, hk, rfl, rfl, ho, hq⟩ := hrel
        have HB := Lib.hid ho
        have HQ := Lib.hid hq
        clear ho hq
        by_cases hkt : k < n
        · obtain ⟨b5, o5, row, a5, c5, hb5, lt5, hrow, hd5, hr5, _⟩ := HO.out.atList k (by rw [HL.out]; exact hkt)
          cases hb5
          have hrl := M.least_row hrow.out
          rw [hrl] at hd5 hr5
          have hc5 := ((bcell HQ.out).1 _ _ lt5).trans hd5
          have HD5 := Lib.hid hd5
          clear hd5
          have hlen := Lib.hid (fm_len (M.grow (M.least s.Channels n) q n) n n k (fun i => M.grow_len _ _ _ _))
          have hnn : n * n ≤ 25 := Nat.le_trans (Nat.mul_le_mul hn5 hn5) (by omega)
          have hst := Lib.hid (range_fm (M.grow (M.least s.Channels n) q n) hkt)
          obtain ⟨wo, rfl⟩ : ∃ wo : World, wo = wr := ⟨_, rfl⟩
          go_wp2
          go_loopw [5, 31] (fun out i wr => ∃ (j : Nat) (ao : Option Addr) (no co : Nat), j ≤ n ∧ i = .int .i64 j ∧ out = .slice ao no co ∧ Oo 3 w3.heap.size wr (.slice ao no co) (((List.range n).take k).flatMap (M.grow (M.least s.Channels n) q n) ++ ((List.range n).take j).flatMap (M.gcell (M.least s.Channels n) q k)) ∧ Ext w3 wr) (fun _ i _ => n - (intOf i).toNat)
          case atStart => exact ⟨0, _, _, _, Nat.zero_le _, rfl, rfl, by simpa using HB.out, HQ.out⟩
          case round =>
            obtain ⟨j, ao, no, co, hj, rfl, rfl, ho, hq⟩ := hrel
            have HB2 := Lib.hid ho
            have HQ2 := Lib.hid hq
            clear ho hq HB
            by_cases hjt : j < n
            · have hc6 := ((bcell HQ2.out).1 _ _ lt5).trans HD5.out
              obtain ⟨b7, o7, x, rfl, _, hx, hcx⟩ := (hr5.out.ext HQ2.out).atBool j (by omega)
              obtain ⟨b8, o8, qrow, a8, c8, hb8, _, hqrow, hc8, hr8, _⟩ := (HQ0.out.ext (E3.out.tr HQ2.out)).atList k (by omega)
              cases hb8
              have hqrl := M.pv_row HK.out hqrow.out
              rw [hqrl] at hc8 hr8
              obtain ⟨b9, o9, y, rfl, _, hy, hcy⟩ := hr8.out.atBool j (by omega)
              have hlen2 := Lib.hid (fm_len (M.gcell (M.least s.Channels n) q k) 1 n j (fun i => M.gcell_len _ _ _ _))
              have hst2 := Lib.hid (range_fm (M.gcell (M.least s.Channels n) q k) hjt)
              have hl1 := M.at2_of hrow.out hx.out
              have hl2 := M.at2_of hqrow.out hy.out
              cases x
              · have hg := Lib.hid (M.gcell_f (q := q) (.inl hl1))
                clear hl1 hl2
                go_wp2
                go_roundw
                case rel => exact ⟨j + 1, _, _, _, by omega, by go_num, rfl, by rw [hst2.out, hg.out, List.append_nil]; exact HB2.out, HQ2.out⟩
                case measure => simp [intOf]; omega
              · cases y
                · have hg := Lib.hid (M.gcell_t hl1 hl2)
                  clear hl1 hl2
                  go_wp2_with (at_builtin; refine wpl_appO (u := wr) (α := Int) rfl _ _ 29 rfl 3 Try.underlying29 elInt (v := .slice ao no co) (ys := [10 * (k : Int) + j]) rfl HB2.out ((Ext.refl _).alloc _) HQ2.out.sz rfl rfl (Row.lit1 (cs := [_]) ⟨rfl, rng_small (by omega) (by omega), rfl⟩) (by simp) (Own.nil _ _) (by have := hlen.out; have := hlen2.out; simp only [List.length_append]; omega) ?_; intro v5 w5 hO5 hg5; have HO5 := Lib.hid hO5; have HE5 := Lib.hid (Ext.grown (HQ2.out.alloc _) hg5 HB2.out.own); clear hO5 hg5; obtain ⟨p5, n5, q5, rfl⟩ := HO5.out.sh)
                  go_roundw
                  case rel => exact ⟨j + 1, _, _, _, by omega, by go_num, rfl, by rw [hst2.out, hg.out, ← List.append_assoc]; exact HO5.out, HE5.out⟩
                  case measure => simp [intOf]; omega
                · have hg := Lib.hid (M.gcell_f (l := M.least s.Channels n) (.inr hl2))
                  clear hl1 hl2
                  go_wp2
                  go_roundw
                  case rel => exact ⟨j + 1, _, _, _, by omega, by go_num, rfl, by rw [hst2.out, hg.out, List.append_nil]; exact HB2.out, HQ2.out⟩
                  case measure => simp [intOf]; omega
            · obtain rfl : j = n := by omega
              have HF := Lib.hid (by have := HB2.out; rwa [List.take_of_length_le (l := List.range j) (i := j) (by simp)] at this : Oo 3 w3.heap.size wr (.slice ao no co) (((List.range j).take k).flatMap (M.grow (M.least s.Channels j) q j) ++ M.grow (M.least s.Channels j) q j k))
              go_wp2
              go_roundw
              case rel => exact ⟨k + 1, _, _, _, by omega, by go_num, rfl, by rw [hst.out]; exact HF.out, HQ2.out⟩
              case measure => simp [intOf]; omega
        · obtain rfl : k = n := by omega
          have HF := Lib.hid (by have := HB.out; rwa [List.take_of_length_le (l := List.range k) (i := k) (by simp)] at this : Oo 3 w3.heap.size wr (.slice ao no co) (M.gaps (M.least s.Channels k) q k))
          obtain ⟨a9, c9, e9, _⟩ := HF.out.form
          cases e9
          have hcap := Lib.hid HF.out.cap
          go_wp2_with (go_at_call 35; refine (slices_Clip_int _ (M.gaps (M.least s.Channels k) q k) _ _ _ rfl hcap.out.1 hcap.out.2).mono ?_; rintro e w9 ⟨rfl, rfl⟩)
          go_ret
          exact ⟨_, rfl, by rw [hm.out]; exact (HF.out.os.mono E3.out.sz).clip, E3.out.tr HQ.out⟩
theorem own_next {v v' : Value} {F : List Nat} {N : Nat} (h : ∀ b, v.ownBlock = some b → b ∉ F) (hx : v'.ownBlock = v.ownBlock ∨ v'.ownBlock = some N) (hF : ∀ k ∈ F, k < N) : ∀ b, v'.ownBlock = some b → b ∉ F := by
  intro b hb hm
  rcases hx with hx | hx
  · exact h b (hx ▸ hb) hm
  · rw [hx] at hb; cases hb; exact Nat.lt_irrefl _ (hF _ hm)
theorem spec_PolicyGaps (v v1 : Value) (s : Setup) (q : List (List Bool)) (w : World) (h : Rv w v s) (hq : Rs w v1 q) (hn : GT.tot s ≤ 1048576) :
    Calls Try.prog 25 #[v, v1] w fun e w' => ∃ v', e = .returned v' ∧ Rs w' v' (M.policyGaps s q) ∧ Ext w w' := by
  have H0 := Lib.hid h
  have HQ0 := Lib.hid hq
  obtain ⟨aq, cq, rfl, hlq⟩ := hq.form
  obtain ⟨a0, c0, a1, c1, a2, c2, rfl, h0, hl0, h1, hl1, h2, hl2⟩ := h.openSetup
  clear h h0 h1 h2 hq
  have e0 := Lib.hid ((Ext.refl w).alloc (.cells #[.slice a0 s.Parts.length c0, .slice a1 s.Channels.length c1, .slice a2 s.Slots.length c2] 27))
  have KB := Lib.hid (Bk.new w [.slice a0 s.Parts.length c0, .slice a1 s.Channels.length c1, .slice a2 s.Slots.length c2] 27)
  cases g : M.setv s
  · have hm := Lib.hid (M.policyGaps_f (q := q) (.inl g))
    have hl := Lib.hid (M.leastP_f g)
    go_enter Try.func25, Try.ntmps25
    go_wp2_with (go_at_call 21; refine (spec_LeastPolicy _ s _ (H0.out.ext (e0.out.alloc _)) hn).mono ?_; rintro e w3 ⟨v3, rfl, ho, he3⟩; rw [hl.out] at ho; obtain ⟨a3, c3, rfl, _⟩ := ho.form; have E3 := Lib.hid ((e0.out.alloc _).tr he3); have HO3 := Lib.hid ((Oo.lit0 (α := Int) 3 _).ext he3); clear ho he3)
    go_loopw [5, 7] (fun out i wr => out = .slice (some ⟨w.heap.size + 1, 0, none⟩) 0 0 ∧ i = .int .i64 0 ∧ wr = w3) (fun _ _ _ => 0)
    case atStart => exact ⟨rfl, rfl, rfl⟩
    case round =>
      obtain ⟨rfl, rfl, rfl⟩ := hrel
      go_wp2
      go_ret
      exact ⟨_, rfl, by rw [hm.out]; exact (by simpa using HO3.out.rs), E3.out⟩
  · cases gk : M.pv q s.Parts.length
    · have hm := Lib.hid (M.policyGaps_f (s := s) (.inr gk))
      have hl := Lib.hid (M.leastP_t g)
      have hl2 := Lib.hid (M.least_len s.Channels s.Parts.length)
      go_enter Try.func25, Try.ntmps25
      go_wp2_with (go_at_call 21; refine (spec_LeastPolicy _ s _ (H0.out.ext (e0.out.alloc _)) hn).mono ?_; rintro e w3 ⟨v3, rfl, ho, he3⟩; rw [hl.out] at ho; obtain ⟨a3, c3, rfl, _⟩ := ho.form; have X3 := Lib.hid (((Ext.refl _).alloc _).tr he3); have HO3 := Lib.hid ((Oo.lit0 (α := Int) 3 _).ext he3); clear ho he3)
      go_loopw [5, 7] (fun out i wr => out = .slice (some ⟨w.heap.size + 1, 0, none⟩) 0 0 ∧ i = .int .i64 0 ∧ wr = w3) (fun _ _ _ => 0)
      case atStart => exact ⟨rfl, rfl, rfl⟩
      case round =>
        obtain ⟨rfl, rfl, rfl⟩ := hrel
        have f0 := (KB.out.ext X3.out).cell (j := 0) rfl
        have f1 := (KB.out.ext X3.out).cell (j := 1) rfl
        have f2 := (KB.out.ext X3.out).cell (j := 2) rfl
        by_cases hz : 0 < (M.least s.Channels s.Parts.length).length
        · go_wp2_with (go_at_call 56; refine (specPolicyValid _ q _ _ (HQ0.out.ext (e0.out.tr X3.out))).mono ?_; rintro e w4 ⟨rfl, hq4⟩; have X4 := Lib.hid hq4.ext; clear hq4)
          go_ret
          exact ⟨_, rfl, by rw [hm.out]; exact (by simpa using HO3.out.rs.ext X4.out), e0.out.tr (X3.out.tr X4.out)⟩
        · go_wp2
          go_ret
          exact ⟨_, rfl, by rw [hm.out]; exact (by simpa using HO3.out.rs), e0.out.tr X3.out⟩
    · have hm := Lib.hid (M.policyGaps_t g gk)
      have hl := Lib.hid (M.leastP_t g)
      have hp5 := M.setv_parts g
      have hql := M.pv_len gk
      have HK := Lib.hid gk
      generalize hn' : s.Parts.length = n at *
      have HL := Lib.hid (M.least_len s.Channels n)
      have hlc := M.least_len s.Channels n
      subst hql
      generalize hn2 : q.length = n at *
      have hn5 : n ≤ 5 := by omega
      go_enter Try.func25, Try.ntmps25
      go_wp2_with (go_at_call 21; refine (spec_LeastPolicy _ s _ (H0.out.ext (e0.out.alloc _)) hn).mono ?_; rintro e w3 ⟨v3, rfl, ho, he3⟩; rw [hl.out] at ho; obtain ⟨F3, sl3, ow3⟩ := ho.os; obtain ⟨a3, c3, rfl, _⟩ := ho.form; have SL0 := Lib.hid sl3; have OW3 := Lib.hid ow3; have E0 := Lib.hid (((Ext.refl _).alloc _).tr he3); have HB0 := Lib.hid ((Oo.lit0 (α := Int) 3 _).ext he3); clear ho he3 sl3 ow3)
      rw [hlc] at SL0
      have hB0 : w.heap.size + 1 ≤ (w.alloc (.cells #[.slice a0 n c0, .slice a1 s.Channels.length c1, .slice a2 s.Slots.length c2] 27)).heap.size := by simp
      have hB1 : (w.alloc (.cells #[.slice a0 n c0, .slice a1 s.Channels.length c1, .slice a2 s.Slots.length c2] 27)).heap.size ≤ w.heap.size + 1 := by simp
      have NI0 : Hid (∀ b, Value.ownBlock (.slice (some ⟨w.heap.size + 1, 0, none⟩) 0 0) = some b → b ∉ F3) := Lib.hid (fun b hb hm => by cases hb; have := (OW3.out.2 _ hm).1; simp at this; omega)
      go_loopw [5, 7] (fun out i wr => ∃ (k : Nat) (ao : Option Addr) (no co : Nat), k ≤ n ∧ i = .int .i64 k ∧ out = .slice ao no co ∧ Oo 3 (w.heap.size + 1) wr (.slice ao no co) (((List.range n).take k).flatMap (M.grow (M.least s.Channels n) q n)) ∧ (Ext (w.alloc (.cells #[.slice a0 n c0, .slice a1 s.Channels.length c1, .slice a2 s.Slots.length c2] 27)) wr ∧ Sl wr (.slice a3 n c3) (M.least s.Channels n) F3 ∧ ∀ b, Value.ownBlock (.slice ao no co) = some b → b ∉ F3)) (fun _ i _ => n - (intOf i).toNat)
      case atStart => exact ⟨0, _, _, _, Nat.zero_le _, rfl, rfl, (by simpa using HB0.out), E0.out, SL0.out, NI0.out⟩
      case round =>
        obtain ⟨k, ao, no, co, hk, rfl, rfl, ho, hq, hsl, hni⟩ := hrel
        have HB := Lib.hid ho
        have HQ := Lib.hid hq
        have HS := Lib.hid hsl
        have HN := Lib.hid hni
        clear ho hq hsl hni
        by_cases hkt : k < n
        · have hlen := Lib.hid (fm_len (M.grow (M.least s.Channels n) q n) n n k (fun i => M.grow_len _ _ _ _))
          have hnn : n * n ≤ 25 := Nat.le_trans (Nat.mul_le_mul hn5 hn5) (by omega)
          have hst := Lib.hid (range_fm (M.grow (M.least s.Channels n) q n) hkt)
          have f0 := (KB.out.ext HQ.out).cell (j := 0) rfl
          go_wp2_with (go_at_call 56; refine (specPolicyValid _ q _ _ (HQ0.out.ext (e0.out.tr HQ.out))).mono ?_; rintro e w4 ⟨rfl, hq4⟩; have X4 := Lib.hid hq4.ext; clear hq4)
          clear f0
          go_loopw [5, 8] (fun out i wr => ∃ (j : Nat) (ao : Option Addr) (no co : Nat), j ≤ n ∧ i = .int .i64 j ∧ out = .slice ao no co ∧ Oo 3 (w.heap.size + 1) wr (.slice ao no co) (((List.range n).take k).flatMap (M.grow (M.least s.Channels n) q n) ++ ((List.range n).take j).flatMap (M.gcell (M.least s.Channels n) q k)) ∧ (Ext (w.alloc (.cells #[.slice a0 n c0, .slice a1 s.Channels.length c1, .slice a2 s.Slots.length c2] 27)) wr ∧ Sl wr (.slice a3 n c3) (M.least s.Channels n) F3 ∧ ∀ b, Value.ownBlock (.slice ao no co) = some b → b ∉ F3)) (fun _ i _ => n - (intOf i).toNat)
          case atStart => exact ⟨0, _, _, _, Nat.zero_le _, rfl, rfl, by simpa using HB.out.ext X4.out, HQ.out.tr X4.out, HS.out.ext X4.out, HN.out⟩
          case round =>
            obtain ⟨j, ao, no, co, hj, rfl, rfl, ho, hq, hsl, hni⟩ := hrel
            have HB2 := Lib.hid ho
            have HQ2 := Lib.hid hq
            have HS2 := Lib.hid hsl
            have HN2 := Lib.hid hni
            clear ho hq hsl hni HB
            by_cases hjt : j < n
            · obtain ⟨b5, o5, row, a5, c5, hb5, lt5, hrow, hc5, hr5, _⟩ := Rs.atList (⟨F3, HS2.out⟩ : Rs wr _ (M.least s.Channels n)) k (by rw [HL.out]; exact hkt)
              cases hb5
              have hrl := M.least_row hrow.out
              rw [hrl] at hc5 hr5
              obtain ⟨b7, o7, x, rfl, _, hx, hcx⟩ := hr5.out.atBool j (by omega)
              obtain ⟨b8, o8, qrow, a8, c8, hb8, _, hqrow, hc8, hr8, _⟩ := (HQ0.out.ext (e0.out.tr HQ2.out)).atList k (by omega)
              cases hb8
              have hqrl := M.pv_row HK.out hqrow.out
              rw [hqrl] at hc8 hr8
              obtain ⟨b9, o9, y, rfl, _, hy, hcy⟩ := hr8.out.atBool j (by omega)
              have hlen2 := Lib.hid (fm_len (M.gcell (M.least s.Channels n) q k) 1 n j (fun i => M.gcell_len _ _ _ _))
              have hst2 := Lib.hid (range_fm (M.gcell (M.least s.Channels n) q k) hjt)
              have hl1 := M.at2_of hrow.out hx.out
              have hl2 := M.at2_of hqrow.out hy.out
              cases x
              · have hg := Lib.hid (M.gcell_f (q := q) (.inl hl1))
                clear hl1 hl2
                go_wp2
                go_roundw
                case rel => exact ⟨j + 1, _, _, _, by omega, by go_num, rfl, by rw [hst2.out, hg.out, List.append_nil]; exact HB2.out, HQ2.out, HS2.out, HN2.out⟩
                case measure => simp [intOf]; omega
              · cases y
                · have hg := Lib.hid (M.gcell_t hl1 hl2)
                  clear hl1 hl2
                  go_wp2_with (at_builtin; refine wpl_appOX (u := wr) (α := Int) rfl _ _ 29 rfl 3 Try.underlying29 elInt (v := .slice ao no co) (ys := [10 * (k : Int) + j]) rfl HB2.out ((Ext.refl _).alloc _) (Nat.le_trans hB0 HQ2.out.sz) rfl rfl (Row.lit1 (cs := [_]) ⟨rfl, rng_small (by omega) (by omega), rfl⟩) (by simp) (Own.nil _ _) (by have := hlen.out; have := hlen2.out; simp only [List.length_append]; omega) ?_; intro v5 w5 hO5 hg5 hX5; have HO5 := Lib.hid hO5; have HE5 := Lib.hid (Ext.grown (HQ2.out.alloc _) hg5 (fun k hk => Nat.le_trans hB1 (HB2.out.own k hk))); have HS5 := Lib.hid ((HS2.out.ext ((Ext.refl _).alloc _)).grown hg5 (fun k hk e => HN2.out k e hk)); have HN5 : Hid (∀ b, Value.ownBlock v5 = some b → b ∉ F3) := Lib.hid (own_next HN2.out hX5 (fun k hk => Nat.lt_of_lt_of_le (HS2.out.inh k hk) (by simp))); clear hO5 hg5 hX5; obtain ⟨p5, n5, q5, rfl⟩ := HO5.out.sh)
                  go_roundw
                  case rel => exact ⟨j + 1, _, _, _, by omega, by go_num, rfl, by rw [hst2.out, hg.out, ← List.append_assoc]; exact HO5.out, HE5.out, HS5.out, HN5.out⟩
                  case measure => simp [intOf]; omega
                · have hg := Lib.hid (M.gcell_f (l := M.least s.Channels n) (.inr hl2))
                  clear hl1 hl2
                  go_wp2
                  go_roundw
                  case rel => exact ⟨j + 1, _, _, _, by omega, by go_num, rfl, by rw [hst2.out, hg.out, List.append_nil]; exact HB2.out, HQ2.out, HS2.out, HN2.out⟩
                  case measure => simp [intOf]; omega
            · obtain rfl : j = n := by omega
              have HF := Lib.hid (by have := HB2.out; rwa [List.take_of_length_le (l := List.range j) (i := j) (by simp)] at this : Oo 3 (w.heap.size + 1) wr (.slice ao no co) (((List.range j).take k).flatMap (M.grow (M.least s.Channels j) q j) ++ M.grow (M.least s.Channels j) q j k))
              go_wp2
              go_roundw
              case rel => exact ⟨k + 1, _, _, _, by omega, by go_num, rfl, by rw [hst.out]; exact HF.out, HQ2.out, HS2.out, HN2.out⟩
              case measure => simp [intOf]; omega
        · obtain rfl : k = n := by omega
          have HF := Lib.hid (by have := HB.out; rwa [List.take_of_length_le (l := List.range k) (i := k) (by simp)] at this : Oo 3 (w.heap.size + 1) wr (.slice ao no co) (M.gaps (M.least s.Channels k) q k))
          go_wp2
          go_ret
          exact ⟨_, rfl, by rw [hm.out]; exact HF.out.os.rs, e0.out.tr HQ.out⟩
end Sk

