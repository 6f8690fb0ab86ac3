/- Contracts of functions of the given program, and lemmas for them: each theorem states the condition under which it holds. -/
import Derived.Test.YtmkibejcdldjeaaChecked
import Derived.Deep.CutBlock
import Derived.Deep.CutRange
import Derived.Test.YtmkibejcdldjeaaDrawB
import Derived.Test.YtmkibejcdldjeaaDrawW
import Derived.Test.YtmkibejcdldjeaaParse
import Derived.Test.YtmkibejcdldjeaaNums
import Derived.Test.YtmkibejcdldjeaaFoc
import Derived.Test.YtmkibejcdldjeaaBuild
import Derived.Test.YtmkibejcdldjeaaAcc
import Derived.Test.YtmkibejcdldjeaaRead
import Derived.Test.YtmkibejcdldjeaaTypes
import Derived.Test.YtmkibejcdldjeaaDrawPol
import Derived.Test.YtmkibejcdldjeaaFaultK
import Derived.Test.YtmkibejcdldjeaaFaultJ
namespace Sk
open Go Go.Proofs Go.RowKit
set_option maxHeartbeats 2000000
set_option maxRecDepth 100000
set_option linter.unusedVariables false
set_option linter.unusedSimpArgs false
theorem Rvb.slots {L : Nat} {w : World} {a0 a1 a2 a : Option Addr} {n0 n1 n2 n c0 c1 c2 c : Nat} {s : Setup} {xs : List Slot} (h : Rvb L w (.agg #[.slice a0 n0 c0, .slice a1 n1 c1, .slice a2 n2 c2]) s) (k : Rsb L w (.slice a n c) xs) :
    Rvb L w (.agg #[.slice a0 n0 c0, .slice a1 n1 c1, .slice a n c]) { s with Slots := xs } := by
  obtain ⟨cs, F, he, ⟨v0, v1, v2, F0, F1, F2, rfl, h0, h1, h2, rfl⟩, hF⟩ := h
  have hq := agg_inj he
  have : #[Value.slice a0 n0 c0, .slice a1 n1 c1, .slice a2 n2 c2].toList = [v0, v1, v2] := by rw [hq]
  simp at this
  obtain ⟨rfl, rfl, rfl⟩ := this
  obtain ⟨G, hG, hG2⟩ := k
  refine ⟨_, F0 ++ (F1 ++ G), rfl, ⟨_, _, _, F0, F1, G, rfl, h0, h1, hG, rfl⟩, fun y hy => ?_⟩
  rcases List.mem_append.1 hy with hy | hy
  · exact hF y (List.mem_append_left _ hy)
  · rcases List.mem_append.1 hy with hy | hy
    · exact hF y (List.mem_append_right _ (List.mem_append_left _ hy))
    · exact hG2 y hy
theorem Rvb.at' {α : Type} [GT α] {L : Nat} {w w' : World} {v : Value} {x : α} (h : Rvb L w v x) (hk : ∀ k, L ≤ k → k < w.heap.size → w'.heap[k]? = w.heap[k]?) : Rvb L w' v x := by
  obtain ⟨cs, F, h1, h2, h3⟩ := h
  exact ⟨cs, F, h1, GT.keep h2 (fun k m => hk k (h3 k m) (GT.inh h2 k m)), h3⟩
theorem Row.slots2 {w : World} {T : TypeId} {x y : Slot} (h1 : rng x.Who) (h2 : rng x.Ticks) (h3 : rng y.Who) (h4 : rng y.Ticks) :
    Row (w.alloc (.cells #[.int .i64 x.Who, .int .i64 x.Ticks, .int .i64 y.Who, .int .i64 y.Ticks] T)) w.heap.size 0 [x, y] [] := by
  have k := Bk.new w [.int .i64 x.Who, .int .i64 x.Ticks, .int .i64 y.Who, .int .i64 y.Ticks] T
  refine ⟨[.int .i64 x.Who, .int .i64 x.Ticks], [], [], ⟨rfl, h1, h2, rfl⟩, fun j u hj => ?_, rfl, [.int .i64 y.Who, .int .i64 y.Ticks], [], [], ⟨rfl, h3, h4, rfl⟩, fun j u hj => ?_, rfl, rfl⟩
  · rcases j with _ | _ | j
    · cases hj; exact k.cell (j := 0) rfl
    · cases hj; exact k.cell (j := 1) rfl
    · cases hj
  · rcases j with _ | _ | j
    · cases hj; exact k.cell (j := 2) rfl
    · cases hj; exact k.cell (j := 3) rfl
    · cases hj
def M.gslots (k : Nat) : List Slot := (List.range k).flatMap fun (i : Nat) => [(⟨(i : Int), 2⟩ : Slot), ⟨-1, 1⟩]
theorem M.gslots_next (k : Nat) : M.gslots (k + 1) = M.gslots k ++ [(⟨(k : Int), 2⟩ : Slot), ⟨-1, 1⟩] := by
  unfold M.gslots; rw [List.range_succ, List.flatMap_append]; simp
theorem M.gslots_len (k : Nat) : (M.gslots k).length = 2 * k := by
  induction k with
  | zero => rfl
  | succ k ih => rw [M.gslots_next, List.length_append, ih]; simp; omega
theorem spec_DrawSetupFaults (v : Value) (xs : List By) (w : World) (h : Rs w v xs) :
    Calls Try.prog 17 #[v] w fun e w' => ∃ v' s, e = .returned v' ∧ Rvb (α := Setup) w.heap.size w' v' s ∧ M.drawn s ∧ Ext w w' := by
  have H := Lib.hid h
  clear h
  go_enter Try.func17, Try.ntmps17
  go_upto_region 1 with (fail)
  refine abs_world (fun W0 => Ext w W0 ∧ Bk W0 w.heap.size [.slice none 0 0, .slice none 0 0, .slice none 0 0] 27) ⟨(Ext.refl _).alloc _, Bk.new _ _ _⟩ ?_
  rintro W0 ⟨e0, kA⟩
  have HE0 := Lib.hid e0
  have KA := Lib.hid kA
  have hA := kA.lt
  clear e0 kA
  go_upto_region 3 with (first
    | (go_at_call 42; refine (spec_l20Setup W0 _ b 100 _ HR.out (by omega) (by omega)).mono ?_; rintro e w2 ⟨v2, s, rfl, hv, hds, hm, hr⟩; obtain ⟨a0, c0, a1, c1, a2, c2, rfl, hl0, hl1, hl2⟩ := hv.openS; have KA2 := Lib.hid (hm.bk (KA.out.ext HE.out) (by simp; omega)); have HV := Lib.hid hv; have HDS := Lib.hid hds; have HR2 := Lib.hid hr; have HM2 := Lib.hid (hm.ext (HE0.out.tr HE.out) (by simp; omega)); have hs2 := hm.size; clear hm hr hv hds)
    | (go_at_call 41; refine (spec_l20Open _ _ _ (H.out.ext HE0.out)).mono ?_; rintro e w1 ⟨b, rfl, hb, he, hr⟩; have HE := Lib.hid he; have hs1 := he.sz; have hb1 := hr.lt; have HR : Hid (Rd W0 w1 b (100 + 500)) := Lib.hid (hr.le (by omega)); clear he hr))
  refine abs_world (fun W2 => Ext w2 W2 ∧ Bk W2 w2.heap.size [.slice a0 s.Parts.length c0, .slice a1 s.Channels.length c1, .slice a2 s.Slots.length c2] 27) ⟨(Ext.refl _).alloc _, Bk.new _ _ _⟩ ?_
  rintro W2 ⟨e2, kB⟩
  have hW2 := e2.sz
  have HV2 := Lib.hid HV.out
  have HB2 := Lib.hid e2.block
  have HE2 := Lib.hid (HM2.out.tr e2)
  replace KA2 := Lib.hid (KA2.out.ext e2)
  replace HV := Lib.hid (HV.out.ext e2)
  replace HR2 : Hid (Rd W0 W2 b (40 + 1)) := Lib.hid ((HR2.out.ext e2).le (by omega))
  have KB := Lib.hid kB
  have hBl := kB.lt
  clear e2 kB HM2 HR KA
  have hp6 : s.Parts.length ≤ 6 := HDS.out.1
  go_upto_if 13 with (go_at_call 43; refine (spec_pick W0 _ b 40 _ HR2.out (rng_sm (by omega) (by omega))).mono ?_; rintro e w4 ⟨k, rfl, hk, hm, hr⟩; have hm := Mw.ofMo hm; have HE4 := Lib.hid (hm.ext HE2.out (by simp <;> omega)); have KA4 := Lib.hid (hm.bk KA2.out (by simp <;> omega)); have KB4 := Lib.hid (hm.bk KB.out (by simp <;> omega)); have HV4 := Lib.hid (HV.out.mw hm (by simpa using hb1)); have HB4 : Hid (∀ q, w1.heap.size ≤ q → q < w2.heap.size → w4.heap[q]? = w2.heap[q]?) := Lib.hid (fun q h1 h2 => (hm.2.2 q (by omega) (by simp <;> omega)).trans (HB2.out q h2)); have hs4 := hm.size; clear hm hr hk)
  clear KA2 KB HV HR2 HE2 HE
  go_cut [] from 11 (fun wc => ∃ (a : Option Addr) (n c : Nat) (xs : List Slot), Bk wc w2.heap.size [.slice a0 s.Parts.length c0, .slice a1 s.Channels.length c1, .slice a n c] 27 ∧ Bk wc w.heap.size [.slice none 0 0, .slice none 0 0, .slice none 0 0] 27 ∧ Rvb w1.heap.size wc (.agg #[.slice a0 s.Parts.length c0, .slice a1 s.Channels.length c1, .slice a n c]) { s with Slots := xs } ∧ xs.length ≤ 13 ∧ Ext w wc)
  case first =>
    rcases Bool.eq_false_or_eq_true (k == 0) with hk0 | hk0
    rotate_left
    · go_wp2
      go_meet
      exact ⟨_, _, _, s.Slots, KB4.out, KA4.out, HV4.out, HDS.out.2.2.2, HE4.out⟩
    · simp only [hk0]
      replace hk0 := Lib.hid hk0
      go_upto_block 0 with (fail)
      refine abs_world (fun W0 => Ext w4 W0 ∧ Oo (α := Slot) 45 w4.heap.size W0 (.slice (some ⟨w4.heap.size, 0, none⟩) 0 0) []) ⟨(Ext.refl _).alloc _, Oo.lit0 _ _⟩ ?_
      rintro W5 ⟨e5, ho5⟩
      have HX5 := Lib.hid e5
      have HO5 := Lib.hid ho5
      have f40 := KB4.out.cell (j := 0) rfl
      have hB4 := KB4.out.lt
      clear e5 ho5
      go_wp2_with fail
      go_loopw [5, 6] (fun v5 i wr => ∃ (j : Nat) (ao : Option Addr) (no co : Nat), j ≤ s.Parts.length ∧ i = .int .i64 j ∧ v5 = .slice ao no co ∧ Oo 45 w4.heap.size wr (.slice ao no co) (M.gslots j) ∧ Ext w4 wr) (fun _ i _ => s.Parts.length - (intOf i).toNat)
      case atStart => exact ⟨0, _, _, _, Nat.zero_le _, rfl, rfl, HO5.out, HX5.out⟩
      case round =>
        clear HO5 HX5
        obtain ⟨j, ao, no, co, hj, rfl, rfl, ho, hq⟩ := hrel
        have f0 := (cell_ext hq hB4).trans f40
        have hBr := Nat.lt_of_lt_of_le hB4 hq.sz
        have HX := Lib.hid hq
        have HO := Lib.hid ho
        have hsz := hq.sz
        have hgl := M.gslots_len j
        clear hq ho
        obtain ⟨wi, rfl⟩ : ∃ wi, wi = wr := ⟨_, rfl⟩
        by_cases hjt : j < s.Parts.length
        · go_wp2_with (at_builtin; refine wpl_appO (u := wi) (α := Slot) rfl _ _ 25 rfl 45 Try.underlying25 elSlot (v := .slice ao no co) (ys := [(⟨(j : Int), 2⟩ : Slot), ⟨-1, 1⟩]) rfl HO.out ((Ext.refl _).alloc _) hsz rfl rfl (Row.slots2 (x := ⟨(j : Int), 2⟩) (y := ⟨-1, 1⟩) (rng_sm (by show _ ≤ (j : Int); omega) (by show (j : Int) ≤ _; omega)) (rng_sm (by show _ ≤ (2 : Int); omega) (by show (2 : Int) ≤ _; omega)) (rng_sm (by show _ ≤ (-1 : Int); omega) (by show (-1 : Int) ≤ _; omega)) (rng_sm (by show _ ≤ (1 : Int); omega) (by show (1 : Int) ≤ _; omega))) (by simp) (Own.nil _ _) (by omega) ?_; intro v8 w8 hO8 hg8; have HO8 := Lib.hid hO8; have HE8 := Lib.hid (Ext.grown (HX.out.alloc _) hg8 HO.out.own); obtain ⟨p8, n8, q8, rfl⟩ := hO8.sh; clear hO8 hg8)
          go_roundw
          case rel => exact ⟨j + 1, _, _, _, by omega, by go_num, rfl, by rw [M.gslots_next]; exact HO8.out, HE8.out⟩
          case measure => simp [intOf]; omega
        · obtain rfl : j = s.Parts.length := by omega
          obtain ⟨_, _, hno, _⟩ := HO.out.form
          cases hno
          rw [hgl] at HO
          have KB5 := KB4.out.ext HX.out
          have f2 := KB5.cell (j := 2) rfl
          have ff := KB5.fz
          have HVX := Lib.hid (HV4.out.ext HX.out)
          have HKA := Lib.hid (KA4.out.ext HX.out)
          have HEX := Lib.hid (HE4.out.tr HX.out)
          have HRS := Lib.hid (HO.out.rsb.mono (show w1.heap.size ≤ w4.heap.size by omega))
          by_cases hpz : s.Parts.length = 0 ∨ 12 < 2 * s.Parts.length
          · have hc : decide (0 < 2 * s.Parts.length) = false ∨ (decide (0 < 2 * s.Parts.length) = true ∧ decide (2 * s.Parts.length ≤ 12) = false) := by
              rcases hpz with h | h
              · exact .inl (decide_eq_false (by omega))
              · exact .inr ⟨decide_eq_true (by omega), decide_eq_false (by omega)⟩
            rcases hc with hc | ⟨hc, hd⟩
            · go_wp2
              go_meet
              exact ⟨_, _, _, s.Slots, KB5, HKA.out, HVX.out, HDS.out.2.2.2, HEX.out⟩
            · go_wp2
              go_meet
              exact ⟨_, _, _, s.Slots, KB5, HKA.out, HVX.out, HDS.out.2.2.2, HEX.out⟩
          · have hc : decide (0 < 2 * s.Parts.length) = true := decide_eq_true (by omega)
            have hd : decide (2 * s.Parts.length ≤ 12) = true := decide_eq_true (by omega)
            replace KB5 := Lib.hid KB5
            go_wp2
            go_meet
            exact ⟨_, _, _, M.gslots s.Parts.length, by have := KB5.out.set 2 (.slice ao (2 * s.Parts.length) co); simpa using this, HKA.out.set_ne (by show w.heap.size ≠ w2.heap.size; omega) _, (HV2.out.at' (fun q h1 h2 => (heap_set_ne (by show q ≠ w2.heap.size; omega)).trans ((HX.out.block q (by omega)).trans (HB4.out q h1 h2)))).slots ((HO.out.set (p := ⟨w2.heap.size, 2, none⟩) (by show w2.heap.size < w4.heap.size; omega) _).rsb.mono (by omega)), by omega, HEX.out.set (by show w.heap.size ≤ w2.heap.size; omega) _⟩
  case rest =>
    obtain ⟨a, n, c, zs, kb, ka, hv, hzl, he⟩ := hcut
    have b0 := kb.cell (j := 0) rfl
    have b1 := kb.cell (j := 1) rfl
    have b2 := kb.cell (j := 2) rfl
    have d0 := ka.cell (j := 0) rfl
    have d1 := ka.cell (j := 1) rfl
    have d2 := ka.cell (j := 2) rfl
    have df := ka.fz
    have dl := ka.lt
    have HV5 := Lib.hid hv
    have HE5 := Lib.hid he
    clear kb ka hv he
    go_wp2
    refine bodyPost_ret (v := .agg #[.slice a0 s.Parts.length c0, .slice a1 s.Channels.length c1, .slice a n c]) (by simp [results, Try.results17, go_sem, d0, d1, d2]) rfl ⟨_, { s with Slots := zs }, rfl, ?_, ⟨HDS.out.1, HDS.out.2.1, HDS.out.2.2.1, hzl⟩, ?_⟩
    · exact ((((HV5.out.set (p := ⟨w.heap.size, 0, none⟩) (by show w.heap.size < w1.heap.size; omega) _).set (p := ⟨w.heap.size, 1, none⟩) (by show w.heap.size < w1.heap.size; omega) _).set (p := ⟨w.heap.size, 2, none⟩) (by show w.heap.size < w1.heap.size; omega) _).mono (by omega))
    · exact (((HE5.out.set (Nat.le_refl _) _).set (Nat.le_refl _) _).set (Nat.le_refl _) _)
end Sk

namespace Sk
open Go Go.Proofs Go.RowKit
set_option maxHeartbeats 1600000
set_option maxRecDepth 100000
set_option linter.unusedVariables false
set_option linter.unusedSimpArgs false
/-- A slot of nobody behind every slot. -/
def M.dbl (xs : List Slot) : List Slot := xs.flatMap fun x => [x, ⟨-1, 1⟩]
theorem M.dbl_len (xs : List Slot) : (M.dbl xs).length = 2 * xs.length := by
  induction xs with
  | nil => rfl
  | cons x xs ih =>
    have h : M.dbl (x :: xs) = x :: ⟨-1, 1⟩ :: M.dbl xs := rfl
    rw [h, List.length_cons, List.length_cons, ih, List.length_cons]; omega
theorem M.dbl_odd (xs : List Slot) : ∀ (k : Nat) (y : Slot), (M.dbl xs)[2 * k + 1]? = some y → y.Who = -1 := by
  induction xs with
  | nil => intro k y h; simp [M.dbl] at h
  | cons x xs ih =>
    intro k y h
    have h2 : M.dbl (x :: xs) = x :: ⟨-1, 1⟩ :: M.dbl xs := rfl
    rw [h2] at h
    cases k with
    | zero => simp at h; subst h; rfl
    | succ k =>
      rw [show 2 * (k + 1) + 1 = (2 * k + 1) + 1 + 1 by omega, List.getElem?_cons_succ, List.getElem?_cons_succ] at h
      exact ih k y h
theorem M.dbl_tight (s : Setup) : M.tight { s with Slots := M.dbl s.Slots } = false := by
  refine Bo.f fun ⟨k, x, y, h1, h2, h3, h4, h5⟩ => ?_
  have h1 : (M.dbl s.Slots)[k]? = some x := h1
  have h2 : (M.dbl s.Slots)[(k + 1) % (M.dbl s.Slots).length]? = some y := h2
  have hk := (List.getElem?_eq_some_iff.1 h1).1
  have hl := M.dbl_len s.Slots
  rcases Nat.mod_two_eq_zero_or_one k with hm | hm
  · have hk1 : k + 1 < (M.dbl s.Slots).length := by omega
    rw [Nat.mod_eq_of_lt hk1] at h2
    have := M.dbl_odd s.Slots (k / 2) y (by rw [show 2 * (k / 2) + 1 = k + 1 by omega]; exact h2)
    omega
  · have := M.dbl_odd s.Slots (k / 2) x (by rw [show 2 * (k / 2) + 1 = k by omega]; exact h1)
    omega
theorem M.dbl_next {xs : List Slot} {k : Nat} {x : Slot} (h : xs[k]? = some x) : M.dbl (xs.take (k + 1)) = M.dbl (xs.take k) ++ [x, ⟨-1, 1⟩] := by
  unfold M.dbl
  exact flatMap_take (fun x => [x, (⟨-1, 1⟩ : Slot)]) h
theorem M.flt_mem {b : Bool} {n z : Int} (h : z ∈ M.flt b n) : b = true ∧ z = n := by
  unfold M.flt at h
  split at h
  · rename_i hb; exact ⟨hb, List.mem_singleton.1 h⟩
  · cases h
theorem M.faults_no3 {s : Setup} (h : M.tight s = false) : ∀ z ∈ M.faults s, z ≠ 3 := by
  intro z hz
  unfold M.faults at hz
  split at hz
  · rcases List.mem_append.1 hz with hz | hz
    · rcases List.mem_append.1 hz with hz | hz
      · rcases List.mem_append.1 hz with hz | hz
        · have := (M.flt_mem hz).2; omega
        · have := (M.flt_mem hz).2; omega
      · rw [h] at hz; have := (M.flt_mem hz).1; cases this
    · have := (M.flt_mem hz).2; omega
  · cases hz
/-- What the law says of the faults. -/
theorem M.faults_mem {s : Setup} {z : Int} (h : z ∈ M.faults s) : M.setv s = true ∧ ((z = 1 ∧ M.apart s.Parts = false) ∨ z = 2 ∨ (z = 3 ∧ M.tight s = true) ∨ (z = 4 ∧ M.twice s = true)) := by
  cases g : M.setv s
  · rw [M.faults_f g] at h; cases h
  · rw [M.faults_t g] at h
    refine ⟨rfl, ?_⟩
    rcases List.mem_append.1 h with hz | hz
    · rcases List.mem_append.1 hz with hz | hz
      · rcases List.mem_append.1 hz with hz | hz
        · have := M.flt_mem hz; exact .inl ⟨this.2, by simpa using this.1⟩
        · exact .inr (.inl (M.flt_mem hz).2)
      · exact .inr (.inr (.inl ⟨(M.flt_mem hz).2, (M.flt_mem hz).1⟩))
    · exact .inr (.inr (.inr ⟨(M.flt_mem hz).2, (M.flt_mem hz).1⟩))
theorem M.twice_none {s : Setup} (h : s.Channels = []) : M.twice s = false :=
  Bo.f fun ⟨i, j, c, d, _, hc, _⟩ => by rw [h] at hc; simp at hc
theorem M.tight_one {s : Setup} (h : s.Slots.length = 1) : M.tight s = false :=
  Bo.f fun ⟨k, x, y, h1, h2, _, _, h5⟩ => by
    have hk := (List.getElem?_eq_some_iff.1 h1).1
    obtain rfl : k = 0 := by omega
    rw [h] at h2
    rw [show (0 + 1) % 1 = 0 from rfl, h1] at h2
    cases h2; exact h5 rfl
theorem M.faults_sorted (s : Setup) : (M.faults s).Pairwise (· < ·) := by
  unfold M.faults
  split
  · unfold M.flt
    split <;> split <;> split <;> split <;> decide
  · exact List.Pairwise.nil
end Sk

namespace Sk
open Go Go.Proofs Go.RowKit
set_option maxHeartbeats 1500000
set_option maxRecDepth 100000
set_option linter.unusedVariables false
set_option linter.unusedSimpArgs false
theorem spec_NextOwn (v : Value) (xs : List Slot) (N n : Int) (w : World) (h : Rs w v xs) (hv : M.ssv xs N = true) (hn0 : 0 ≤ n) (hn1 : n < N) :
    Calls Try.prog 49 #[v, .int .i64 N, .int .i64 n, .int .i64 0] w fun e w' => (∃ z : Int, e = .returned (.int .i64 z) ∧ (z < 0 ↔ ∀ x ∈ xs, x.Who ≠ n)) ∧ Ext w w' := by
  obtain ⟨a, c, rfl, hl⟩ := h.form
  have H := Lib.hid h
  have hall := M.ssv_all hv
  have HV := Lib.hid hv
  obtain ⟨hx1, hx12, hN, hxx⟩ := hall
  have hbd := M.tk_bd (fun x hx => (hxx x hx).1) xs.length (Nat.le_refl _)
  have HMO := Lib.hid (fun (j k : Nat) => @M.tk_mono xs (fun x hx => (hxx x hx).1) j k)
  have HXX := Lib.hid hxx
  have HIN := Lib.hid (M.inn_t hn0 (by omega) : M.inn n 0 (N - 1) = true)
  have HI0 := Lib.hid (M.inn_t (by omega) (by omega) : M.inn 0 0 1000000 = true)
  obtain ⟨T, hT⟩ : ∃ T : Nat, M.tk xs xs.length = T := ⟨(M.tk xs xs.length).toNat, by omega⟩
  rw [hT] at hbd
  have hT0 : (T : Int) ≠ 0 := by omega
  replace hT := Lib.hid hT
  clear h hv hxx
  go_enter Try.func49, Try.ntmps49
  go_wp2_with (first
    | (go_at_call 82; refine (spec_FrameTicks _ xs N _ (H.out.ext HE1.out) HV.out).mono ?_; rintro e w2 ⟨rfl, he⟩; rw [hT.out]; have HE2 := Lib.hid (HE1.out.tr he); clear he)
    | (go_at_call 40; refine (spec_SlotsValid _ xs N w H.out).mono ?_; rintro e w1 ⟨rfl, he⟩; rw [HV.out]; have HE1 := Lib.hid he; clear he)
    | (go_at_call 61; refine (spec_In _ _ _ _).mono ?_; rintro e w' ⟨rfl, rfl⟩; first | rw [HIN.out] | rw [HI0.out]))
  go_loopw [10] (fun i wr => ∃ m : Nat, m ≤ T ∧ i = .int .i64 m ∧ (∀ (k : Nat) (x : Slot), xs[k]? = some x → M.tk xs k < m → x.Who ≠ n) ∧ Ext w wr) (fun i _ => T - (intOf i).toNat)
  case atStart => exact ⟨0, by omega, rfl, fun k x hk hlt => absurd hlt (by
    have h1 := HMO.out 0 k (Nat.zero_le _) (Nat.le_of_lt (List.getElem?_eq_some_iff.1 hk).1)
    rw [M.tk_zero] at h1; omega), HE2.out⟩
  case round =>
    clear HE1 HE2
    obtain ⟨m, hm, rfl, hinv, hq⟩ := hrel
    have HQ := Lib.hid hq
    have HI := Lib.hid hinv
    clear hq hinv
    by_cases hmt : m < T
    · have hmod : (m : Int).tmod (T : Int) = (m : Int) := by
        rw [Int.tmod_eq_emod_of_nonneg (by omega)]; exact Int.emod_eq_of_lt (by omega) (by omega)
      go_upto_if 45 with (go_at_call 83; refine (spec_WhoRuns _ xs N (m : Int) _ (H.out.ext HQ.out) HV.out (by omega) (by rw [hT.out]; omega)).mono ?_; rintro e w5 ⟨⟨k, x, hk, hk1, hk2, rfl⟩, he⟩; have HK := Lib.hid hk; have HK1 := Lib.hid hk1; have HK2 := Lib.hid hk2; have HE5 := Lib.hid (HQ.out.tr he); clear hk hk1 hk2 he)
      by_cases hxn : x.Who = n
      · have hbe : (x.Who == n) = true := by simp [hxn]
        have hx2 := Lib.hid hxn
        clear hxn hmod
        go_wp2
        go_ret
        exact ⟨⟨m, rfl, ⟨fun h => by omega, fun h => absurd hx2.out (h x (List.mem_of_getElem? HK.out))⟩⟩, HE5.out⟩
      · have hbe : (x.Who == n) = false := by simpa using hxn
        have hx2 := Lib.hid hxn
        clear hxn hmod
        go_wp2
        go_roundw
        case rel => exact ⟨m + 1, by omega, by go_num, fun k2 x3 h3 hlt => by
          by_cases hlt2 : M.tk xs k2 < m
          · exact HI.out k2 x3 h3 hlt2
          · have hk2l := (List.getElem?_eq_some_iff.1 h3).1
            have hkl := (List.getElem?_eq_some_iff.1 HK.out).1
            have e1 := M.tk_next h3
            have e2 := M.tk_next HK.out
            have b1 := HXX.out x3 (List.mem_of_getElem? h3)
            have b2 := HK1.out
            have b3 := HK2.out
            obtain rfl : k2 = k := by
              rcases Nat.lt_trichotomy k2 k with hh | hh | hh
              · have := HMO.out (k2 + 1) k (by omega) (by omega); omega
              · exact hh
              · have := HMO.out (k + 1) k2 (by omega) (by omega); omega
            rw [HK.out] at h3; cases h3
            exact hx2.out, HE5.out⟩
        case measure => simp [intOf]; omega
    · obtain rfl : m = T := by omega
      go_wp2
      go_ret
      exact ⟨⟨-1, rfl, ⟨fun _ x hx => by
        obtain ⟨k, hk⟩ := List.getElem?_of_mem hx
        have hkl := (List.getElem?_eq_some_iff.1 hk).1
        have e1 := M.tk_next hk
        have b1 := HXX.out x hx
        have := HMO.out (k + 1) xs.length (by omega) (by omega)
        have := hT.out
        exact HI.out k x hk (by omega), fun _ => by omega⟩⟩, HQ.out⟩
end Sk

