/- Contracts of functions of the given program, and lemmas for them: each theorem states the condition under which it holds. -/
import Derived.Test.YtmkibejcdldjeaaChecked
import Derived.Deep.CutBlock
import Derived.Deep.CutRange
import Derived.StillTailTactics
import Derived.Test.YtmkibejcdldjeaaCopy
import Derived.Test.YtmkibejcdldjeaaBuild
import Derived.Test.YtmkibejcdldjeaaRead
import Derived.Test.YtmkibejcdldjeaaTypes
import Derived.Test.YtmkibejcdldjeaaNums
import Derived.Test.YtmkibejcdldjeaaGaps
import Derived.Test.YtmkibejcdldjeaaDrawB
import Derived.Test.YtmkibejcdldjeaaAcc
import Derived.Test.YtmkibejcdldjeaaDrawPt
import Derived.Test.YtmkibejcdldjeaaFoc
import Derived.Test.YtmkibejcdldjeaaDrawW
import Derived.Test.YtmkibejcdldjeaaParse
import Derived.Test.YtmkibejcdldjeaaDrawSF
import Derived.Test.YtmkibejcdldjeaaFaultK
import Derived.Test.YtmkibejcdldjeaaFaultT
import Derived.Test.YtmkibejcdldjeaaQt
namespace Sk
open Go Go.Proofs Go.RowKit
set_option maxHeartbeats 1600000
set_option maxRecDepth 100000
set_option linter.unusedVariables false
set_option linter.unusedSimpArgs false
theorem rs_one {w : World} {T : TypeId} {z : Int} (h : rng z) : Rs (w.alloc (.cells #[.int .i64 z] T)) (.slice (some ⟨w.heap.size, 0, none⟩) 1 1) [z] :=
  ⟨[w.heap.size], _, 1, rfl, by simp, by unfold maxLen; omega, .inr ⟨by simp, w.heap.size, 0, [], rfl, rfl, Row.lit1 (cs := [.int .i64 z]) ⟨rfl, h, rfl⟩⟩⟩
theorem Rs.row {α : Type} [GT α] [Fl α] {w : World} {a : Option Addr} {n c : Nat} {xs : List α} (h : Rs w (.slice a n c) xs) (hx : 0 < xs.length) : ∃ g o, a = some ⟨g, o, none⟩ ∧ n = xs.length ∧ Row w g o xs [] := by
  obtain ⟨F, a', c', he, hl, hc, hr⟩ := h
  cases he
  rcases hr with ⟨rfl, _⟩ | ⟨_, b, o, F', rfl, rfl, hr⟩
  · cases hx
  · have := hr.fl
    subst this
    exact ⟨b, o, rfl, rfl, hr⟩
theorem Os.own1 {α : Type} [GT α] [Fl α] {e : TypeId} {L : Nat} {w : World} {v : Value} {xs : List α} (h : Oo e L w v xs) : ∃ F, GT.enc w [v] xs F ∧ Own L w F := by
  obtain ⟨F, h1, h2⟩ := h.os
  exact ⟨F, ⟨v, rfl, h1⟩, h2⟩
end Sk

namespace Sk
open Go Go.Proofs Go.RowKit
set_option maxHeartbeats 800000
set_option maxRecDepth 100000
set_option linter.unusedVariables false
set_option linter.unusedSimpArgs false
theorem Mx.own {F G : List Nat} {L : Nat} {a b : World} (h : Mx F a b) (ho : Own L a G) : Own L b G := ⟨ho.1, fun x hx => ⟨(ho.2 x hx).1, h.2.2.2 x (ho.2 x hx).2⟩⟩
theorem mkT_ct_Setup (x : Setup) (k : Int) : (x.mkT k).ctT = x.ctT := GT.mkE_ct _ _
theorem mkT_idem_Setup (x : Setup) (k : Int) : (x.mkT k).mkT k = x.mkT k := GT.mkE_idem _ _
theorem mkT_ct_Board (x : Board) (k : Int) : (x.mkT k).ctT = x.ctT := GT.mkE_ct _ _
theorem mkT_idem_Board (x : Board) (k : Int) : (x.mkT k).mkT k = x.mkT k := GT.mkE_idem _ _
theorem mkT_ct_Machine (x : Machine) (k : Int) : (x.mkT k).ctT = x.ctT := by simp only [Machine.mkT, Machine.ctT, GT.mkE_ct]
theorem mkT_idem_Machine (x : Machine) (k : Int) : (x.mkT k).mkT k = x.mkT k := by simp only [Machine.mkT, GT.mkE_ct, GT.mkE_idem]
theorem mkT_ct_Watch (x : Watch) (k : Int) : (x.mkT k).ctT = x.ctT := by simp only [Watch.mkT, Watch.ctT, GT.mkE_ct, mkT_ct_Machine]
theorem mkT_idem_Watch (x : Watch) (k : Int) : (x.mkT k).mkT k = x.mkT k := by simp only [Watch.mkT, mkT_ct_Machine, mkT_idem_Machine, GT.mkE_idem]
end Sk

namespace Sk
open Go Go.Proofs Go.RowKit
set_option maxHeartbeats 3000000
set_option maxRecDepth 100000
set_option linter.unusedVariables false
set_option linter.unusedSimpArgs false
/-- How far the influences of a policy were seen to go on. -/
def OnTo (q : List (List Bool)) (n ka kb kc : Nat) (o : Bool) : Prop :=
  o = true → ∀ a b c, a < n → b < n → c < n → (a < ka ∨ (a = ka ∧ (b < kb ∨ (b = kb ∧ c < kc)))) → M.at2 q a b = true → M.at2 q b c = true → M.at2 q a c = true
theorem OnTo.zero (q : List (List Bool)) (n : Nat) (o : Bool) : OnTo q n 0 0 0 o := fun _ a b c _ _ _ h => by omega
theorem OnTo.off (q : List (List Bool)) (n ka kb kc : Nat) : OnTo q n ka kb kc false := fun h => by cases h
theorem OnTo.nextA {q : List (List Bool)} {n ka : Nat} {o : Bool} (h : OnTo q n ka n 0 o) : OnTo q n (ka + 1) 0 0 o :=
  fun ho a b c ha hb hc hk => h ho a b c ha hb hc (by omega)
theorem OnTo.nextB {q : List (List Bool)} {n ka kb : Nat} {o : Bool} (h : OnTo q n ka kb n o) : OnTo q n ka (kb + 1) 0 o :=
  fun ho a b c ha hb hc hk => h ho a b c ha hb hc (by omega)
theorem OnTo.nextC {q : List (List Bool)} {n ka kb kc : Nat} {o : Bool} (h : OnTo q n ka kb kc o) (hk : M.at2 q ka kb = true → M.at2 q kb kc = true → M.at2 q ka kc = true) : OnTo q n ka kb (kc + 1) o :=
  fun ho a b c ha hb hc hk2 h1 h2 => by
    by_cases he : a = ka ∧ b = kb ∧ c = kc
    · obtain ⟨rfl, rfl, rfl⟩ := he; exact hk h1 h2
    · exact h ho a b c ha hb hc (by omega) h1 h2
theorem OnTo.all {q : List (List Bool)} {n : Nat} {o : Bool} (h : OnTo q n n 0 0 o) (ho : o = true) : ∀ a b c, a < n → b < n → c < n → M.at2 q a b = true → M.at2 q b c = true → M.at2 q a c = true :=
  fun a b c ha hb hc => h ho a b c ha hb hc (by omega)
end Sk

namespace Sk
open Go Go.Proofs Go.RowKit
set_option maxHeartbeats 3000000
set_option maxRecDepth 100000
set_option linter.unusedVariables false
set_option linter.unusedSimpArgs false
theorem Rv.slots' {w : World} {a0 a1 a2 : Option Addr} {n0 n1 n2 c0 c1 c2 : Nat} {s : Setup} (h : Rv w (.agg #[.slice a0 n0 c0, .slice a1 n1 c1, .slice a2 n2 c2]) s) : Rs w (.slice a2 n2 c2) s.Slots := by
  obtain ⟨cs, F, he, v0, v1, v2, F0, F1, F2, rfl, h0, h1, h2, rfl⟩ := h
  have hq := agg_inj he
  have : #[Value.slice a0 n0 c0, .slice a1 n1 c1, .slice a2 n2 c2].toList = [v0, v1, v2] := by rw [hq]
  simp at this
  obtain ⟨rfl, rfl, rfl⟩ := this
  exact ⟨F2, h2⟩
theorem Rv.same {α : Type} [GT α] {w w' : World} {v : Value} {x : α} (h : Rv w v x) (hk : ∀ k, k < w.heap.size → w'.heap[k]? = w.heap[k]?) : Rv w' v x := by
  obtain ⟨cs, F, h1, h2⟩ := h
  exact ⟨cs, F, h1, GT.keep h2 (fun k m => hk k (GT.inh h2 k m))⟩
theorem Rv.withSlots {w : World} {a0 a1 a2 a : Option Addr} {n0 n1 n2 n c0 c1 c2 c : Nat} {s : Setup} {xs : List Slot} (h : Rv w (.agg #[.slice a0 n0 c0, .slice a1 n1 c1, .slice a2 n2 c2]) s) (k : Rs w (.slice a n c) xs) :
    Rv w (.agg #[.slice a0 n0 c0, .slice a1 n1 c1, .slice a n c]) { s with Slots := xs } := by
  obtain ⟨cs, F, he, v0, v1, v2, F0, F1, F2, rfl, h0, h1, h2, rfl⟩ := h
  have hq := agg_inj he
  have : #[Value.slice a0 n0 c0, .slice a1 n1 c1, .slice a2 n2 c2].toList = [v0, v1, v2] := by rw [hq]
  simp at this
  obtain ⟨rfl, rfl, rfl⟩ := this
  obtain ⟨G, hG⟩ := k
  exact ⟨_, F0 ++ (F1 ++ G), rfl, _, _, _, F0, F1, G, rfl, h0, h1, hG, rfl⟩
theorem Bk.slots2 {w : World} {b : Nat} {T : TypeId} {x y : Slot} (k : Bk w b [.int .i64 x.Who, .int .i64 x.Ticks, .int .i64 y.Who, .int .i64 y.Ticks] T) (h1 : rng x.Who) (h2 : rng x.Ticks) (h3 : rng y.Who) (h4 : rng y.Ticks) : Row w b 0 [x, y] [] := by
  refine ⟨[.int .i64 x.Who, .int .i64 x.Ticks], [], [], ⟨rfl, h1, h2, rfl⟩, fun j u hj => ?_, rfl, [.int .i64 y.Who, .int .i64 y.Ticks], [], [], ⟨rfl, h3, h4, rfl⟩, fun j u hj => ?_, rfl, rfl⟩
  · rcases j with _ | _ | j
    · cases hj; exact k.cell (j := 0) rfl
    · cases hj; exact k.cell (j := 1) rfl
    · cases hj
  · rcases j with _ | _ | j
    · cases hj; exact k.cell (j := 2) rfl
    · cases hj; exact k.cell (j := 3) rfl
    · cases hj
end Sk

namespace Sk
open Go Go.Proofs Go.RowKit
set_option maxHeartbeats 1000000
set_option maxRecDepth 100000
set_option linter.unusedVariables false
set_option linter.unusedSimpArgs false
theorem Rv.parts' {w : World} {a0 a1 a2 : Option Addr} {n0 n1 n2 c0 c1 c2 : Nat} {s : Setup} (h : Rv w (.agg #[.slice a0 n0 c0, .slice a1 n1 c1, .slice a2 n2 c2]) s) : Rs w (.slice a0 n0 c0) s.Parts := by
  obtain ⟨cs, F, he, v0, v1, v2, F0, F1, F2, rfl, h0, h1, h2, rfl⟩ := h
  have hq := agg_inj he
  have : #[Value.slice a0 n0 c0, .slice a1 n1 c1, .slice a2 n2 c2].toList = [v0, v1, v2] := by rw [hq]
  simp at this
  obtain ⟨rfl, rfl, rfl⟩ := this
  exact ⟨F0, h0⟩
theorem lawSetupFaults (v : Value) (xs : List By) (w : World) (h : Rs w v xs) :
    Calls Try.prog 5 #[v] w fun e w' => e = .returned (.bool true) ∧ Ext w w' := by
  obtain ⟨a, c, rfl, hl⟩ := h.form
  have H := Lib.hid h
  clear h
  by_cases hx : xs.length ≤ 1048576
  rotate_left
  · have hx2 : 1048576 < xs.length := by omega
    clear hx
    go_enter Try.func5, Try.ntmps5
    go_wp2
    go_ret
    exact ⟨rfl, Ext.refl w⟩
  go_enter Try.func5, Try.ntmps5
  go_upto_region 4 with (go_at_call 17; refine (spec_DrawSetupFaults _ _ _ H.out).mono ?_; rintro e w1 ⟨v', s, rfl, hp, hds, he⟩; obtain ⟨a0, c0, a1, c1, a2, c2, rfl, hl0, hl1, hl2⟩ := hp.openS; have HP := Lib.hid hp.rv; have HE := Lib.hid he; clear hp he hds)
  refine abs_world (fun W1 => Ext w1 W1 ∧ Bk W1 w1.heap.size [.slice a0 s.Parts.length c0, .slice a1 s.Channels.length c1, .slice a2 s.Slots.length c2] 27) ⟨(Ext.refl _).alloc _, Bk.new _ _ _⟩ ?_
  rintro W1 ⟨e1, kA⟩
  have HE1 := Lib.hid (HE.out.tr e1)
  have KA := Lib.hid kA
  have hA := kA.lt
  have d0 := kA.cell (j := 0) rfl
  have d1 := kA.cell (j := 1) rfl
  have d2 := kA.cell (j := 2) rfl
  replace HP := Lib.hid (HP.out.ext e1)
  clear e1 kA HE
  obtain ⟨L, hL⟩ : ∃ L, M.faults s = L := ⟨_, rfl⟩
  go_upto_region 5 with (go_at_call 18; refine (impl_SetupFaults _ s _ HP.out).mono ?_; rintro e w4 ⟨v4, rfl, ho, he⟩; rw [hL] at ho; obtain ⟨p4, c4, rfl, hq4⟩ := ho.rs.form; have HO4 := Lib.hid ho.rs; have HE4 := Lib.hid he; have KA4 := Lib.hid (KA.out.ext he); have f0 := KA4.out.cell (j := 0) rfl; have f1 := KA4.out.cell (j := 1) rfl; have f2 := KA4.out.cell (j := 2) rfl; clear ho he)
  go_upto_if 17 with (first
    | (go_at_call 19; refine (spec_SetupFaults _ s _ (HP.out.ext HE4.out)).mono ?_; rintro e w5 ⟨v5, rfl, ho, he⟩; rw [hL] at ho; have HO5 := Lib.hid ho.rs; have HE5 := Lib.hid he; clear ho he)
    | (go_at_call 9; refine (law_sameInts _ _ L L _ (HO4.out.ext HE5.out) HO5.out).mono ?_; rintro e w6 ⟨rfl, he⟩; have HE6 := Lib.hid he; clear he))
  rw [Eqb.t (rfl : L = L)]
  simp only [Bool.not_true]
  have HX := Lib.hid (HE5.out.tr HE6.out)
  have HS := Lib.hid (HE1.out.tr (HE4.out.tr HX.out))
  replace HP := Lib.hid (HP.out.ext (HE4.out.tr HX.out))
  replace HO4 := Lib.hid (HO4.out.ext HX.out)
  replace KA4 := Lib.hid (KA4.out.ext HX.out)
  have HPP := Lib.hid HP.out.parts'
  have g0 := KA4.out.cell (j := 0) rfl
  have g1 := KA4.out.cell (j := 1) rfl
  have g2 := KA4.out.cell (j := 2) rfl
  have hA4 := KA4.out.lt
  have HM : Hid (∀ z ∈ L, _) := Lib.hid (fun z hz => @M.faults_mem s z (hL ▸ hz))
  have HSO := Lib.hid (hL ▸ M.faults_sorted s : L.Pairwise (· < ·))
  clear HE5 HE6 HX HE4 HE1 HO5 KA d0 d1 d2 hA f0 f1 f2 H hL KA4
  go_wp2
  go_loopw [5] (fun i wr => ∃ k : Nat, k ≤ L.length ∧ i = .int .i64 k ∧ Ext w6 wr) (fun i _ => L.length - (intOf i).toNat)
  case atStart => exact ⟨0, Nat.zero_le _, rfl, Ext.refl _⟩
  case round =>
    obtain ⟨k, hk, rfl, hq⟩ := hrel
    have HQ := Lib.hid hq
    clear hq
    by_cases hkt : k < L.length
    · obtain ⟨bL, oL, z, rfl, ltL, hz, hcz, _⟩ := HO4.out.atInt k hkt
      obtain ⟨hset, hcase⟩ := HM.out z (List.mem_of_getElem? hz.out)
      have f0 := (cell_ext HQ.out hA4).trans g0
      have f1 := (cell_ext HQ.out hA4).trans g1
      have f2 := (cell_ext HQ.out hA4).trans g2
      have hc0 := (cell_ext HQ.out ltL).trans hcz
      have hAl := Nat.lt_of_lt_of_le hA4 HQ.out.sz
      have lt0 := Nat.lt_of_lt_of_le ltL HQ.out.sz
      have hprev : ∀ K, k = K + 1 → ∃ y : Int, wr.cell? ⟨bL, oL + K, none⟩ = some (.int .i64 y) ∧ y < z ∧ 1 ≤ y := fun K hK => by
        obtain ⟨b', o', y, hb', lt', hy, hcy, _⟩ := HO4.out.atInt K (by omega)
        cases hb'
        have h1 := List.pairwise_iff_getElem.1 HSO.out K k (by omega) hkt (by omega)
        have e1 : L[K]'(by omega) = y := by have := hy.out; rw [List.getElem?_eq_getElem (by omega)] at this; exact Option.some.inj this
        have e2 : L[k] = z := by have := hz.out; rw [List.getElem?_eq_getElem hkt] at this; exact Option.some.inj this
        rw [e1, e2] at h1
        refine ⟨y, (cell_ext HQ.out ltL).trans hcy, h1, ?_⟩
        have := (HM.out y (List.mem_of_getElem? hy.out)).2
        omega
      clear hcz g0 g1 g2
      by_cases hz1 : z = 1
      · subst hz1
        obtain rfl : k = 0 := by
          rcases Nat.eq_zero_or_pos k with h | h
          · exact h
          · obtain ⟨y, _, h1, h2⟩ := hprev (k - 1) (by omega); omega
        have hna : Hid ((M.psv s.Parts && M.apart s.Parts) = false) := by
          rcases hcase with ⟨_, h⟩ | h | ⟨h, _⟩ | ⟨h, _⟩
          · exact Lib.hid (by rw [h]; simp)
          · omega
          · omega
          · omega
        clear hprev hcase hz
        obtain ⟨wi, rfl⟩ : ∃ wi, wi = wr := ⟨_, rfl⟩
        go_upto_region 10 with (fail)
        try simp only [Int.natCast_zero]
        try simp only [Nat.add_zero] at hc0
        simp only [List.append_eq, List.cons_append, List.nil_append]
        refine wp_region_quiet_tail 63 (by kernel_rfl) (by kernel_rfl) ?_
        simp only [List.take_succ_cons, List.take_zero, List.drop_succ_cons, List.drop_zero]
        repeat (go_big_quiet_step (fail))
        refine wpQuiet_nil ?_
        change wpList _ _ _ _ _ wi.drew
        have HD := Lib.hid (HQ.out.drew)
        generalize wi.drew = w2 at HD ⊢
        go_wp2_with (go_at_call 20; refine (impl_PartsApart _ s.Parts _ (HPP.out.ext HD.out)).mono ?_; rintro e w9 ⟨rfl, he⟩; rw [hna.out]; have HE9 := Lib.hid (HD.out.tr he); clear he)
        go_roundw
        case rel => exact ⟨1, hkt, rfl, HE9.out⟩
        case measure => simp [intOf]; omega
      · have hz4 : z = 2 ∨ z = 3 ∨ z = 4 := by omega
        have hch : z = 4 → s.Channels.length ≠ 0 := fun h4 h0 => by
          rcases hcase with ⟨h, _⟩ | h | ⟨h, _⟩ | ⟨_, h⟩
          · omega
          · omega
          · omega
          · rw [M.twice_none (List.length_eq_zero_iff.1 h0)] at h; cases h
        have hsl : z = 3 → s.Slots.length ≠ 1 := fun h3 h0 => by
          rcases hcase with ⟨h, _⟩ | h | ⟨_, h⟩ | ⟨h, _⟩
          · omega
          · omega
          · rw [M.tight_one h0] at h; cases h
          · omega
        have hch2 : z = 4 → ((s.Channels.length : Int) == 0) = false := fun h => beq_eq_false_iff_ne.2 (by have := hch h; omega)
        have hsl2 : z = 3 → ((s.Slots.length : Int) == 1) = false := fun h => beq_eq_false_iff_ne.2 (by have := hsl h; omega)
        clear hch hsl hcase hz hz1
        go_upto_region 10 with (fail)
        simp only [List.append_eq, List.cons_append, List.nil_append]
        rcases Nat.eq_zero_or_pos k with hk0 | hk0
        · subst hk0
          try simp only [Int.natCast_zero]
          try simp only [Nat.add_zero] at hc0
          clear hprev
          rcases hz4 with rfl | rfl | rfl
          · clear hch2 hsl2
            go_big_quiet (fail)
            go_wp2
            go_roundw
            case rel => exact ⟨1, hkt, rfl, HQ.out.drewN _⟩
            case measure => simp [intOf]; omega
          · have hsl3 := hsl2 rfl
            clear hch2 hsl2
            go_big_quiet (fail)
            go_wp2
            go_roundw
            case rel => exact ⟨1, hkt, rfl, HQ.out.drewN _⟩
            case measure => simp [intOf]; omega
          · have hch3 := hch2 rfl
            clear hch2 hsl2
            go_big_quiet (fail)
            go_wp2
            go_roundw
            case rel => exact ⟨1, hkt, rfl, HQ.out.drewN _⟩
            case measure => simp [intOf]; omega
        · obtain ⟨K, hkK⟩ : ∃ K, k = K + 1 := ⟨k - 1, by omega⟩
          obtain ⟨y, hcy, hyz, hy1⟩ := hprev K hkK
          have hk1 : (k : Int) - 1 = K := by omega
          have q3 : decide (0 < k) = true := decide_eq_true (by omega)
          have hKL : K < L.length := by omega
          replace hkK := Lib.hid hkK
          clear hprev hk0
          have q4 : decide (z ≤ y) = false := decide_eq_false (by omega)
          rcases hz4 with rfl | rfl | rfl
          · clear hch2 hsl2
            go_big_quiet (fail)
            go_wp2
            go_roundw
            case rel => exact ⟨k + 1, by omega, by go_num, HQ.out.drewN _⟩
            case measure => simp [intOf]; omega
          · have hsl3 := hsl2 rfl
            clear hch2 hsl2
            go_big_quiet (fail)
            go_wp2
            go_roundw
            case rel => exact ⟨k + 1, by omega, by go_num, HQ.out.drewN _⟩
            case measure => simp [intOf]; omega
          · have hch3 := hch2 rfl
            clear hch2 hsl2
            go_big_quiet (fail)
            go_wp2
            go_roundw
            case rel => exact ⟨k + 1, by omega, by go_num, HQ.out.drewN _⟩
            case measure => simp [intOf]; omega
    · obtain rfl : k = L.length := by omega
      go_wp2_with (go_at_call 13; refine (law_alive _).mono ?_; rintro e w8 ⟨rfl, he⟩; have HE8 := Lib.hid (HQ.out.tr he); clear he)
      go_ret
      exact ⟨rfl, HS.out.tr HE8.out⟩
end Sk

