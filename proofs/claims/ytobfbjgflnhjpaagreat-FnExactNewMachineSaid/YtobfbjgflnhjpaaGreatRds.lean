/- Contracts of functions of the given program, and lemmas for them: each theorem states the condition under which it holds. -/
import Derived.Test.YtobfbjgflnhjpaaGreatChecked
import Derived.ChangeArms
import Derived.Test.YtobfbjgflnhjpaaGreatOwn
import Derived.Test.YtobfbjgflnhjpaaGreatTypes
namespace Sk
open Go Go.Proofs Go.RowKit Go.ChangeShapes Go.WideShapes Go.ChangeAt Go.Deep
set_option maxRecDepth 100000
set_option linter.unusedVariables false
set_option linter.unusedSimpArgs false
theorem rd_int : Rdr Tryz.prog 3 Int := .int Tryz.underlying3 (by kernel_rfl)
theorem rd_bool : Rdr Tryz.prog 4 Bool := .bool Tryz.underlying4 (by kernel_rfl)
theorem rd_Window : Rdr Tryz.prog 207 Window := by
  refine ⟨by kernel_rfl, fun {H enc w base spare held fuel cs x} h => ?_⟩
  obtain ⟨ys, n, _, rfl, hl, hlen, hf⟩ := DataW.trod_struct Tryz.underlying207 h
  rw [show Tryz.prog.cellsOf 207 = 3 by kernel_rfl] at hl
  match cs, hl with
  | [c0, c1, c2], _ =>
    match ys, hlen with
    | [y0, y1, y2], _ =>
      have k0 : DataW.trod enc Tryz.prog w base spare held n 3 (([c0, c1, c2].drop 0).take (Tryz.prog.cellsOf 3)) = some y0 := hf 0 _ rfl
      rw [rd_int.cells] at k0
      obtain ⟨x0, F0, e0⟩ := rd_int.rd (x := y0) k0
      have k1 : DataW.trod enc Tryz.prog w base spare held n 3 (([c0, c1, c2].drop 1).take (Tryz.prog.cellsOf 3)) = some y1 := hf 1 _ rfl
      rw [rd_int.cells] at k1
      obtain ⟨x1, F1, e1⟩ := rd_int.rd (x := y1) k1
      have k2 : DataW.trod enc Tryz.prog w base spare held n 4 (([c0, c1, c2].drop 2).take (Tryz.prog.cellsOf 4)) = some y2 := hf 2 _ rfl
      rw [rd_bool.cells] at k2
      obtain ⟨x2, F2, e2⟩ := rd_bool.rd (x := y2) k2
      obtain ⟨q0, r0, rfl⟩ := e0; cases q0
      obtain ⟨q1, r1, rfl⟩ := e1; cases q1
      obtain ⟨q2, rfl⟩ := e2; cases q2
      exact ⟨⟨x0, x1, x2⟩, _, rfl, r0, r1, rfl⟩
theorem rd_WindowS : Rdr Tryz.prog 145 (List Window) := .slice rd_Window Tryz.underlying145 (by kernel_rfl)
theorem rd_Part : Rdr Tryz.prog 147 Part := by
  refine ⟨by kernel_rfl, fun {H enc w base spare held fuel cs x} h => ?_⟩
  obtain ⟨ys, n, _, rfl, hl, hlen, hf⟩ := DataW.trod_struct Tryz.underlying147 h
  rw [show Tryz.prog.cellsOf 147 = 2 by kernel_rfl] at hl
  match cs, hl with
  | [c0, c1], _ =>
    match ys, hlen with
    | [y0, y1], _ =>
      have k0 : DataW.trod enc Tryz.prog w base spare held n 145 (([c0, c1].drop 0).take (Tryz.prog.cellsOf 145)) = some y0 := hf 0 _ rfl
      rw [rd_WindowS.cells] at k0
      obtain ⟨x0, F0, e0⟩ := rd_WindowS.rd (x := y0) k0
      have k1 : DataW.trod enc Tryz.prog w base spare held n 3 (([c0, c1].drop 1).take (Tryz.prog.cellsOf 3)) = some y1 := hf 1 _ rfl
      rw [rd_int.cells] at k1
      obtain ⟨x1, F1, e1⟩ := rd_int.rd (x := y1) k1
      obtain ⟨v0, q0, h0⟩ := e0; cases q0
      obtain ⟨q1, r1, rfl⟩ := e1; cases q1
      exact ⟨⟨x0, x1⟩, _, _, rfl, h0, r1⟩
theorem rd_PartS : Rdr Tryz.prog 35 (List Part) := .slice rd_Part Tryz.underlying35 (by kernel_rfl)
theorem rd_Channel : Rdr Tryz.prog 154 Channel := by
  refine ⟨by kernel_rfl, fun {H enc w base spare held fuel cs x} h => ?_⟩
  obtain ⟨ys, n, _, rfl, hl, hlen, hf⟩ := DataW.trod_struct Tryz.underlying154 h
  rw [show Tryz.prog.cellsOf 154 = 4 by kernel_rfl] at hl
  match cs, hl with
  | [c0, c1, c2, c3], _ =>
    match ys, hlen with
    | [y0, y1, y2, y3], _ =>
      have k0 : DataW.trod enc Tryz.prog w base spare held n 3 (([c0, c1, c2, c3].drop 0).take (Tryz.prog.cellsOf 3)) = some y0 := hf 0 _ rfl
      rw [rd_int.cells] at k0
      obtain ⟨x0, F0, e0⟩ := rd_int.rd (x := y0) k0
      have k1 : DataW.trod enc Tryz.prog w base spare held n 3 (([c0, c1, c2, c3].drop 1).take (Tryz.prog.cellsOf 3)) = some y1 := hf 1 _ rfl
      rw [rd_int.cells] at k1
      obtain ⟨x1, F1, e1⟩ := rd_int.rd (x := y1) k1
      have k2 : DataW.trod enc Tryz.prog w base spare held n 3 (([c0, c1, c2, c3].drop 2).take (Tryz.prog.cellsOf 3)) = some y2 := hf 2 _ rfl
      rw [rd_int.cells] at k2
      obtain ⟨x2, F2, e2⟩ := rd_int.rd (x := y2) k2
      have k3 : DataW.trod enc Tryz.prog w base spare held n 3 (([c0, c1, c2, c3].drop 3).take (Tryz.prog.cellsOf 3)) = some y3 := hf 3 _ rfl
      rw [rd_int.cells] at k3
      obtain ⟨x3, F3, e3⟩ := rd_int.rd (x := y3) k3
      obtain ⟨q0, r0, rfl⟩ := e0; cases q0
      obtain ⟨q1, r1, rfl⟩ := e1; cases q1
      obtain ⟨q2, r2, rfl⟩ := e2; cases q2
      obtain ⟨q3, r3, rfl⟩ := e3; cases q3
      exact ⟨⟨x0, x1, x2, x3⟩, _, rfl, r0, r1, r2, r3, rfl⟩
theorem rd_ChannelS : Rdr Tryz.prog 36 (List Channel) := .slice rd_Channel Tryz.underlying36 (by kernel_rfl)
theorem rd_Slot : Rdr Tryz.prog 158 Slot := by
  refine ⟨by kernel_rfl, fun {H enc w base spare held fuel cs x} h => ?_⟩
  obtain ⟨ys, n, _, rfl, hl, hlen, hf⟩ := DataW.trod_struct Tryz.underlying158 h
  rw [show Tryz.prog.cellsOf 158 = 2 by kernel_rfl] at hl
  match cs, hl with
  | [c0, c1], _ =>
    match ys, hlen with
    | [y0, y1], _ =>
      have k0 : DataW.trod enc Tryz.prog w base spare held n 3 (([c0, c1].drop 0).take (Tryz.prog.cellsOf 3)) = some y0 := hf 0 _ rfl
      rw [rd_int.cells] at k0
      obtain ⟨x0, F0, e0⟩ := rd_int.rd (x := y0) k0
      have k1 : DataW.trod enc Tryz.prog w base spare held n 3 (([c0, c1].drop 1).take (Tryz.prog.cellsOf 3)) = some y1 := hf 1 _ rfl
      rw [rd_int.cells] at k1
      obtain ⟨x1, F1, e1⟩ := rd_int.rd (x := y1) k1
      obtain ⟨q0, r0, rfl⟩ := e0; cases q0
      obtain ⟨q1, r1, rfl⟩ := e1; cases q1
      exact ⟨⟨x0, x1⟩, _, rfl, r0, r1, rfl⟩
theorem rd_SlotS : Rdr Tryz.prog 37 (List Slot) := .slice rd_Slot Tryz.underlying37 (by kernel_rfl)
theorem rd_Setup : Rdr Tryz.prog 39 Setup := by
  refine ⟨by kernel_rfl, fun {H enc w base spare held fuel cs x} h => ?_⟩
  obtain ⟨ys, n, _, rfl, hl, hlen, hf⟩ := DataW.trod_struct Tryz.underlying39 h
  rw [show Tryz.prog.cellsOf 39 = 3 by kernel_rfl] at hl
  match cs, hl with
  | [c0, c1, c2], _ =>
    match ys, hlen with
    | [y0, y1, y2], _ =>
      have k0 : DataW.trod enc Tryz.prog w base spare held n 35 (([c0, c1, c2].drop 0).take (Tryz.prog.cellsOf 35)) = some y0 := hf 0 _ rfl
      rw [rd_PartS.cells] at k0
      obtain ⟨x0, F0, e0⟩ := rd_PartS.rd (x := y0) k0
      have k1 : DataW.trod enc Tryz.prog w base spare held n 36 (([c0, c1, c2].drop 1).take (Tryz.prog.cellsOf 36)) = some y1 := hf 1 _ rfl
      rw [rd_ChannelS.cells] at k1
      obtain ⟨x1, F1, e1⟩ := rd_ChannelS.rd (x := y1) k1
      have k2 : DataW.trod enc Tryz.prog w base spare held n 37 (([c0, c1, c2].drop 2).take (Tryz.prog.cellsOf 37)) = some y2 := hf 2 _ rfl
      rw [rd_SlotS.cells] at k2
      obtain ⟨x2, F2, e2⟩ := rd_SlotS.rd (x := y2) k2
      obtain ⟨v0, q0, h0⟩ := e0; cases q0
      obtain ⟨v1, q1, h1⟩ := e1; cases q1
      obtain ⟨v2, q2, h2⟩ := e2; cases q2
      exact ⟨⟨x0, x1, x2⟩, _, _, _, _, _, _, _, rfl, h0, h1, h2, rfl⟩
theorem rd_Order : Rdr Tryz.prog 162 Order := by
  refine ⟨by kernel_rfl, fun {H enc w base spare held fuel cs x} h => ?_⟩
  obtain ⟨ys, n, _, rfl, hl, hlen, hf⟩ := DataW.trod_struct Tryz.underlying162 h
  rw [show Tryz.prog.cellsOf 162 = 3 by kernel_rfl] at hl
  match cs, hl with
  | [c0, c1, c2], _ =>
    match ys, hlen with
    | [y0, y1, y2], _ =>
      have k0 : DataW.trod enc Tryz.prog w base spare held n 3 (([c0, c1, c2].drop 0).take (Tryz.prog.cellsOf 3)) = some y0 := hf 0 _ rfl
      rw [rd_int.cells] at k0
      obtain ⟨x0, F0, e0⟩ := rd_int.rd (x := y0) k0
      have k1 : DataW.trod enc Tryz.prog w base spare held n 3 (([c0, c1, c2].drop 1).take (Tryz.prog.cellsOf 3)) = some y1 := hf 1 _ rfl
      rw [rd_int.cells] at k1
      obtain ⟨x1, F1, e1⟩ := rd_int.rd (x := y1) k1
      have k2 : DataW.trod enc Tryz.prog w base spare held n 3 (([c0, c1, c2].drop 2).take (Tryz.prog.cellsOf 3)) = some y2 := hf 2 _ rfl
      rw [rd_int.cells] at k2
      obtain ⟨x2, F2, e2⟩ := rd_int.rd (x := y2) k2
      obtain ⟨q0, r0, rfl⟩ := e0; cases q0
      obtain ⟨q1, r1, rfl⟩ := e1; cases q1
      obtain ⟨q2, r2, rfl⟩ := e2; cases q2
      exact ⟨⟨x0, x1, x2⟩, _, rfl, r0, r1, r2, rfl⟩
theorem rd_OrderS : Rdr Tryz.prog 96 (List Order) := .slice rd_Order Tryz.underlying96 (by kernel_rfl)
theorem rd_OrderSS : Rdr Tryz.prog 40 (List (List Order)) := .slice rd_OrderS Tryz.underlying40 (by kernel_rfl)
end Sk

namespace Sk
open Go Go.Proofs Go.RowKit
set_option maxHeartbeats 400000
set_option maxRecDepth 100000
set_option linter.unusedVariables false
set_option linter.unusedSimpArgs false
/-- lo ≤ n ≤ hi. -/
def M.inn (n lo hi : Int) : Bool := decide (lo ≤ n) && decide (n ≤ hi)
theorem M.inn_t {n lo hi : Int} (h1 : lo ≤ n) (h2 : n ≤ hi) : M.inn n lo hi = true := by simp [M.inn, h1, h2]
theorem M.inn_f {n lo hi : Int} (h : ¬ (lo ≤ n ∧ n ≤ hi)) : M.inn n lo hi = false := by simp [M.inn]; omega
theorem M.inn_iff {n lo hi : Int} : M.inn n lo hi = true ↔ lo ≤ n ∧ n ≤ hi := by simp [M.inn]
theorem M.inn_ff {n lo hi : Int} (h : M.inn n lo hi = false) : ¬ (lo ≤ n ∧ n ≤ hi) := fun h' => by rw [M.inn_t h'.1 h'.2] at h; cases h
theorem spec_In (n lo hi : Int) (w : World) : Calls Tryz.prog 80 #[.int .i64 n, .int .i64 lo, .int .i64 hi] w fun e w' => e = .returned (.bool (M.inn n lo hi)) ∧ w = w' := by
  by_cases h1 : lo ≤ n
  · have hm : Hid (M.inn n lo hi = decide (n ≤ hi)) := by simp [M.inn, h1, Hid]
    go_enter Tryz.func80, Tryz.ntmps80
    go_wp2
    all_goals go_ret
    all_goals exact ⟨by rw [hm.out]; rfl, rfl⟩
  · have hm : Hid (M.inn n lo hi = false) := by simp [M.inn, h1, Hid]
    go_enter Tryz.func80, Tryz.ntmps80
    go_wp2
    all_goals go_ret
    all_goals exact ⟨by rw [hm.out]; rfl, rfl⟩
theorem impl_in (n lo hi : Int) (w : World) : Calls Tryz.prog 83 #[.int .i64 n, .int .i64 lo, .int .i64 hi] w fun e w' => e = .returned (.bool (M.inn n lo hi)) ∧ w = w' := by
  by_cases h1 : lo ≤ n
  · have hm : Hid (M.inn n lo hi = decide (n ≤ hi)) := by simp [M.inn, h1, Hid]
    go_enter Tryz.func83, Tryz.ntmps83
    go_wp2
    all_goals go_ret
    all_goals exact ⟨by rw [hm.out]; rfl, rfl⟩
  · have hm : Hid (M.inn n lo hi = false) := by simp [M.inn, h1, Hid]
    go_enter Tryz.func83, Tryz.ntmps83
    go_wp2
    all_goals go_ret
    all_goals exact ⟨by rw [hm.out]; rfl, rfl⟩
def M.bit (b : Bool) : Int := if b then 1 else 0
/-- A kind and a size that fit. -/
noncomputable def M.sized (k s : Int) : Bool := Bo (k = 1 ∧ s = 1 ∨ (k = 2 ∨ k = 3) ∧ 1 ≤ s ∧ s ≤ 4)
theorem impl_sized (k s : Int) (w : World) : Calls Tryz.prog 136 #[.int .i64 k, .int .i64 s] w fun e w' => e = .returned (.bool (M.sized k s)) ∧ w = w' := by
  by_cases h1 : k = 1
  · subst h1
    have hm : Hid (M.sized 1 s = (s == 1)) := by
      unfold Hid M.sized
      by_cases h : s = 1
      · rw [Bo.t (by omega)]; simp [h]
      · rw [Bo.f (by omega)]; simp [h]
    go_enter Tryz.func136, Tryz.ntmps136
    go_wp2
    all_goals go_ret
    all_goals exact ⟨by rw [hm.out]; (first | rfl | simp_all), rfl⟩
  · have h1' : (k == 1) = false := by simpa using h1
    by_cases h2 : k = 2
    · subst h2
      have hm : Hid (M.sized 2 s = M.inn s 1 4) := by
        unfold Hid M.sized
        by_cases h : 1 ≤ s ∧ s ≤ 4
        · rw [Bo.t (by omega), M.inn_t h.1 h.2]
        · rw [Bo.f (by omega), M.inn_f h]
      clear h1 h1'
      go_enter Tryz.func136, Tryz.ntmps136
      go_wp2_with (go_at_call 83; refine (impl_in _ _ _ _).mono ?_; rintro e w' ⟨rfl, rfl⟩)
      go_ret
      exact ⟨by rw [hm.out]; rfl, rfl⟩
    · have h2' : (k == 2) = false := by simpa using h2
      by_cases h3 : k = 3
      · subst h3
        have hm : Hid (M.sized 3 s = M.inn s 1 4) := by
          unfold Hid M.sized
          by_cases h : 1 ≤ s ∧ s ≤ 4
          · rw [Bo.t (by omega), M.inn_t h.1 h.2]
          · rw [Bo.f (by omega), M.inn_f h]
        clear h1 h1' h2 h2'
        go_enter Tryz.func136, Tryz.ntmps136
        go_wp2_with (go_at_call 83; refine (impl_in _ _ _ _).mono ?_; rintro e w' ⟨rfl, rfl⟩)
        go_ret
        exact ⟨by rw [hm.out]; rfl, rfl⟩
      · have h3' : (k == 3) = false := by simpa using h3
        have hm : Hid (M.sized k s = false) := Lib.hid (Bo.f (by omega))
        clear h1 h2 h3
        go_enter Tryz.func136, Tryz.ntmps136
        go_wp2
        go_ret
        exact ⟨by rw [hm.out]; rfl, rfl⟩
end Sk

namespace Sk
open Go Go.Proofs Go.RowKit
set_option maxHeartbeats 400000
set_option maxRecDepth 100000
set_option linter.unusedVariables false
set_option linter.unusedSimpArgs false
def M.idx {α : Type} (p : α → Bool) (xs : List α) : Int := match xs.findIdx? p with | some i => (i : Int) | none => -1
theorem M.idx_none {α : Type} {p : α → Bool} {xs : List α} (h : ∀ x ∈ xs, p x = false) : M.idx p xs = -1 := by
  have : xs.findIdx? p = none := by simpa using h
  simp [M.idx, this]
theorem M.idx_at {α : Type} {p : α → Bool} {xs : List α} {k : Nat} {x : α} (h : ∀ x ∈ xs.take k, p x = false) (hk : xs[k]? = some x) (hp : p x = true) : M.idx p xs = k := by
  have : xs.findIdx? p = some k := by
    obtain ⟨hl, rfl⟩ := List.getElem?_eq_some_iff.1 hk
    rw [List.findIdx?_eq_some_iff_getElem]
    refine ⟨hl, hp, fun j hj => ?_⟩
    have := h xs[j] (by rw [List.mem_take_iff_getElem]; exact ⟨j, by omega, rfl⟩)
    simp [this]
  simp [M.idx, this]
theorem M.idx_any {α : Type} {p : α → Bool} {xs : List α} : decide (0 ≤ M.idx p xs) = xs.any p := by
  unfold M.idx
  cases h : xs.findIdx? p with
  | none =>
    have : xs.any p = false := by rw [List.any_eq_false]; intro x hx; have := List.findIdx?_eq_none_iff.1 h x hx; simp [this]
    simp [this]
  | some i =>
    have : xs.any p = true := by
      obtain ⟨hl, hp, _⟩ := List.findIdx?_eq_some_iff_getElem.1 h
      rw [List.any_eq_true]; exact ⟨xs[i], List.getElem_mem hl, hp⟩
    simp [this]
theorem idx_Window (g : Nat) (caps : Array Value) (p : Window → Bool) (v : Value) (xs : List Window) (w : World) (h : Rs w v xs) (hg : ∀ ar u, (callFunc g ar).run Tryz.prog u = .ok (.enter g ar) u)
    (hc : ∀ (w1 : World) (v : Value) (x : Window), Ext w w1 → x ∈ xs → Rv w1 v x → Calls Tryz.prog g (#[v] ++ caps) w1 fun e w2 => e = .returned (.bool (p x)) ∧ Ext w1 w2) :
    Calls Tryz.prog 192 #[v, .func (.func g) #[] caps] w fun e w' => e = .returned (.int .i64 (M.idx p xs)) ∧ Ext w w' := by
  obtain ⟨a, c, rfl, hl⟩ := h.form
  have H := Lib.hid h
  have HC := Lib.hid hc
  clear h hc
  go_enter Tryz.func192, Tryz.ntmps192
  go_wp2
  go_loopw [5, 8] (fun _ i wr => ∃ k : Nat, k ≤ xs.length ∧ i = .int .i64 k ∧ (∀ x ∈ xs.take k, p x = false) ∧ Ext w wr) (fun _ i _ => xs.length - (intOf i).toNat)
  case atStart => exact ⟨0, Nat.zero_le _, rfl, by simp, .refl _⟩
  case round =>
    obtain ⟨k, hk, rfl, he, hq⟩ := hrel
    have HE := Lib.hid he
    have HQ := Lib.hid hq
    clear he hq
    by_cases hlt : k < xs.length
    · skip
      obtain ⟨b, o, x, rfl, hb, hx1, hc0, hc1, hc2, hr0, hr1, hv⟩ := (H.out.ext HQ.out).atWindow k hlt
      have hcx := Lib.hid (HC.out wr _ x HQ.out (List.mem_of_getElem? hx1.out) hv.out)
      clear H HC
      go_wp2_with fail
      refine hcx.out.mono ?_
      rintro e w2 ⟨rfl, he2⟩
      have HE2 := Lib.hid (HQ.out.tr he2)
      clear he2
      by_cases hp : p x = true
      · have HN := Lib.hid (M.idx_at HE.out hx1.out hp)
        go_wp2
        go_ret
        exact ⟨ret_i HN.out.symm, HE2.out⟩
      · rw [Bool.not_eq_true] at hp
        go_wp2
        go_roundw
        case rel =>
          refine ⟨k + 1, by omega, by go_num, ?_, HE2.out⟩
          rw [take_snoc hx1.out]
          intro y hy
          rcases List.mem_append.1 hy with hy | hy
          · exact HE.out y hy
          · rw [List.mem_singleton] at hy; subst hy; exact hp
        case measure => simp [intOf]; omega
    · obtain rfl : k = xs.length := by omega
      have HN := Lib.hid (M.idx_none (p := p) (xs := xs) (by have := HE.out; rwa [List.take_length] at this))
      clear H HC
      go_wp2
      go_ret
      exact ⟨ret_i HN.out.symm, HQ.out⟩
theorem has_Window (g : Nat) (caps : Array Value) (p : Window → Bool) (v : Value) (xs : List Window) (w : World) (h : Rs w v xs) (hg : ∀ ar u, (callFunc g ar).run Tryz.prog u = .ok (.enter g ar) u)
    (hc : ∀ (w1 : World) (v : Value) (x : Window), Ext w w1 → x ∈ xs → Rv w1 v x → Calls Tryz.prog g (#[v] ++ caps) w1 fun e w2 => e = .returned (.bool (p x)) ∧ Ext w1 w2) :
    Calls Tryz.prog 187 #[v, .func (.func g) #[] caps] w fun e w' => e = .returned (.bool (xs.any p)) ∧ Ext w w' := by
  have HX := Lib.hid (idx_Window g caps p v xs w h hg hc)
  clear hc hg h
  go_enter Tryz.func187, Tryz.ntmps187
  go_wp2_with fail
  refine HX.out.mono ?_
  rintro e w2 ⟨rfl, he2⟩
  have HE := Lib.hid he2
  have HN := Lib.hid (M.idx_any (p := p) (xs := xs))
  clear he2
  generalize M.idx p xs = i at *
  go_wp2
  go_ret
  exact ⟨wp_cond_ret HN.out, HE.out⟩
theorem idx_Part (g : Nat) (caps : Array Value) (p : Part → Bool) (v : Value) (xs : List Part) (w : World) (h : Rs w v xs) (hg : ∀ ar u, (callFunc g ar).run Tryz.prog u = .ok (.enter g ar) u)
    (hc : ∀ (w1 : World) (v : Value) (x : Part), Ext w w1 → x ∈ xs → Rv w1 v x → Calls Tryz.prog g (#[v] ++ caps) w1 fun e w2 => e = .returned (.bool (p x)) ∧ Ext w1 w2) :
    Calls Tryz.prog 186 #[v, .func (.func g) #[] caps] w fun e w' => e = .returned (.int .i64 (M.idx p xs)) ∧ Ext w w' := by
  obtain ⟨a, c, rfl, hl⟩ := h.form
  have H := Lib.hid h
  have HC := Lib.hid hc
  clear h hc
  go_enter Tryz.func186, Tryz.ntmps186
  go_wp2
  go_loopw [5, 8] (fun _ i wr => ∃ k : Nat, k ≤ xs.length ∧ i = .int .i64 k ∧ (∀ x ∈ xs.take k, p x = false) ∧ Ext w wr) (fun _ i _ => xs.length - (intOf i).toNat)
  case atStart => exact ⟨0, Nat.zero_le _, rfl, by simp, .refl _⟩
  case round =>
    obtain ⟨k, hk, rfl, he, hq⟩ := hrel
    have HE := Lib.hid he
    have HQ := Lib.hid hq
    clear he hq
    by_cases hlt : k < xs.length
    · skip
      obtain ⟨b, o, x, a0, c0, rfl, hb, hx1, hc0, hc1, hr1, hs0, hl0, hv⟩ := (H.out.ext HQ.out).atPart k hlt
      have hcx := Lib.hid (HC.out wr _ x HQ.out (List.mem_of_getElem? hx1.out) hv.out)
      clear H HC
      go_wp2_with fail
      refine hcx.out.mono ?_
      rintro e w2 ⟨rfl, he2⟩
      have HE2 := Lib.hid (HQ.out.tr he2)
      clear he2
      by_cases hp : p x = true
      · have HN := Lib.hid (M.idx_at HE.out hx1.out hp)
        go_wp2
        go_ret
        exact ⟨ret_i HN.out.symm, HE2.out⟩
      · rw [Bool.not_eq_true] at hp
        go_wp2
        go_roundw
        case rel =>
          refine ⟨k + 1, by omega, by go_num, ?_, HE2.out⟩
          rw [take_snoc hx1.out]
          intro y hy
          rcases List.mem_append.1 hy with hy | hy
          · exact HE.out y hy
          · rw [List.mem_singleton] at hy; subst hy; exact hp
        case measure => simp [intOf]; omega
    · obtain rfl : k = xs.length := by omega
      have HN := Lib.hid (M.idx_none (p := p) (xs := xs) (by have := HE.out; rwa [List.take_length] at this))
      clear H HC
      go_wp2
      go_ret
      exact ⟨ret_i HN.out.symm, HQ.out⟩
theorem has_Part (g : Nat) (caps : Array Value) (p : Part → Bool) (v : Value) (xs : List Part) (w : World) (h : Rs w v xs) (hg : ∀ ar u, (callFunc g ar).run Tryz.prog u = .ok (.enter g ar) u)
    (hc : ∀ (w1 : World) (v : Value) (x : Part), Ext w w1 → x ∈ xs → Rv w1 v x → Calls Tryz.prog g (#[v] ++ caps) w1 fun e w2 => e = .returned (.bool (p x)) ∧ Ext w1 w2) :
    Calls Tryz.prog 169 #[v, .func (.func g) #[] caps] w fun e w' => e = .returned (.bool (xs.any p)) ∧ Ext w w' := by
  have HX := Lib.hid (idx_Part g caps p v xs w h hg hc)
  clear hc hg h
  go_enter Tryz.func169, Tryz.ntmps169
  go_wp2_with fail
  refine HX.out.mono ?_
  rintro e w2 ⟨rfl, he2⟩
  have HE := Lib.hid he2
  have HN := Lib.hid (M.idx_any (p := p) (xs := xs))
  clear he2
  generalize M.idx p xs = i at *
  go_wp2
  go_ret
  exact ⟨wp_cond_ret HN.out, HE.out⟩
theorem idx_Channel (g : Nat) (caps : Array Value) (p : Channel → Bool) (v : Value) (xs : List Channel) (w : World) (h : Rs w v xs) (hg : ∀ ar u, (callFunc g ar).run Tryz.prog u = .ok (.enter g ar) u)
    (hc : ∀ (w1 : World) (v : Value) (x : Channel), Ext w w1 → x ∈ xs → Rv w1 v x → Calls Tryz.prog g (#[v] ++ caps) w1 fun e w2 => e = .returned (.bool (p x)) ∧ Ext w1 w2) :
    Calls Tryz.prog 190 #[v, .func (.func g) #[] caps] w fun e w' => e = .returned (.int .i64 (M.idx p xs)) ∧ Ext w w' := by
  obtain ⟨a, c, rfl, hl⟩ := h.form
  have H := Lib.hid h
  have HC := Lib.hid hc
  clear h hc
  go_enter Tryz.func190, Tryz.ntmps190
  go_wp2
  go_loopw [5, 8] (fun _ i wr => ∃ k : Nat, k ≤ xs.length ∧ i = .int .i64 k ∧ (∀ x ∈ xs.take k, p x = false) ∧ Ext w wr) (fun _ i _ => xs.length - (intOf i).toNat)
  case atStart => exact ⟨0, Nat.zero_le _, rfl, by simp, .refl _⟩
  case round =>
    obtain ⟨k, hk, rfl, he, hq⟩ := hrel
    have HE := Lib.hid he
    have HQ := Lib.hid hq
    clear he hq
    by_cases hlt : k < xs.length
    · skip
      obtain ⟨b, o, x, rfl, hb, hx1, hc0, hc1, hc2, hc3, hr0, hr1, hr2, hr3, hv⟩ := (H.out.ext HQ.out).atChannel k hlt
      have hcx := Lib.hid (HC.out wr _ x HQ.out (List.mem_of_getElem? hx1.out) hv.out)
      clear H HC
      go_wp2_with fail
      refine hcx.out.mono ?_
      rintro e w2 ⟨rfl, he2⟩
      have HE2 := Lib.hid (HQ.out.tr he2)
      clear he2
      by_cases hp : p x = true
      · have HN := Lib.hid (M.idx_at HE.out hx1.out hp)
        go_wp2
        go_ret
        exact ⟨ret_i HN.out.symm, HE2.out⟩
      · rw [Bool.not_eq_true] at hp
        go_wp2
        go_roundw
        case rel =>
          refine ⟨k + 1, by omega, by go_num, ?_, HE2.out⟩
          rw [take_snoc hx1.out]
          intro y hy
          rcases List.mem_append.1 hy with hy | hy
          · exact HE.out y hy
          · rw [List.mem_singleton] at hy; subst hy; exact hp
        case measure => simp [intOf]; omega
    · obtain rfl : k = xs.length := by omega
      have HN := Lib.hid (M.idx_none (p := p) (xs := xs) (by have := HE.out; rwa [List.take_length] at this))
      clear H HC
      go_wp2
      go_ret
      exact ⟨ret_i HN.out.symm, HQ.out⟩
theorem has_Channel (g : Nat) (caps : Array Value) (p : Channel → Bool) (v : Value) (xs : List Channel) (w : World) (h : Rs w v xs) (hg : ∀ ar u, (callFunc g ar).run Tryz.prog u = .ok (.enter g ar) u)
    (hc : ∀ (w1 : World) (v : Value) (x : Channel), Ext w w1 → x ∈ xs → Rv w1 v x → Calls Tryz.prog g (#[v] ++ caps) w1 fun e w2 => e = .returned (.bool (p x)) ∧ Ext w1 w2) :
    Calls Tryz.prog 172 #[v, .func (.func g) #[] caps] w fun e w' => e = .returned (.bool (xs.any p)) ∧ Ext w w' := by
  have HX := Lib.hid (idx_Channel g caps p v xs w h hg hc)
  clear hc hg h
  go_enter Tryz.func172, Tryz.ntmps172
  go_wp2_with fail
  refine HX.out.mono ?_
  rintro e w2 ⟨rfl, he2⟩
  have HE := Lib.hid he2
  have HN := Lib.hid (M.idx_any (p := p) (xs := xs))
  clear he2
  generalize M.idx p xs = i at *
  go_wp2
  go_ret
  exact ⟨wp_cond_ret HN.out, HE.out⟩
theorem idx_Slot (g : Nat) (caps : Array Value) (p : Slot → Bool) (v : Value) (xs : List Slot) (w : World) (h : Rs w v xs) (hg : ∀ ar u, (callFunc g ar).run Tryz.prog u = .ok (.enter g ar) u)
    (hc : ∀ (w1 : World) (v : Value) (x : Slot), Ext w w1 → x ∈ xs → Rv w1 v x → Calls Tryz.prog g (#[v] ++ caps) w1 fun e w2 => e = .returned (.bool (p x)) ∧ Ext w1 w2) :
    Calls Tryz.prog 191 #[v, .func (.func g) #[] caps] w fun e w' => e = .returned (.int .i64 (M.idx p xs)) ∧ Ext w w' := by
  obtain ⟨a, c, rfl, hl⟩ := h.form
  have H := Lib.hid h
  have HC := Lib.hid hc
  clear h hc
  go_enter Tryz.func191, Tryz.ntmps191
  go_wp2
  go_loopw [5, 8] (fun _ i wr => ∃ k : Nat, k ≤ xs.length ∧ i = .int .i64 k ∧ (∀ x ∈ xs.take k, p x = false) ∧ Ext w wr) (fun _ i _ => xs.length - (intOf i).toNat)
  case atStart => exact ⟨0, Nat.zero_le _, rfl, by simp, .refl _⟩
  case round =>
    obtain ⟨k, hk, rfl, he, hq⟩ := hrel
    have HE := Lib.hid he
    have HQ := Lib.hid hq
    clear he hq
    by_cases hlt : k < xs.length
    · skip
      obtain ⟨b, o, x, rfl, hb, hx1, hc0, hc1, hr0, hr1, hv⟩ := (H.out.ext HQ.out).atSlot k hlt
      have hcx := Lib.hid (HC.out wr _ x HQ.out (List.mem_of_getElem? hx1.out) hv.out)
      clear H HC
      go_wp2_with fail
      refine hcx.out.mono ?_
      rintro e w2 ⟨rfl, he2⟩
      have HE2 := Lib.hid (HQ.out.tr he2)
      clear he2
      by_cases hp : p x = true
      · have HN := Lib.hid (M.idx_at HE.out hx1.out hp)
        go_wp2
        go_ret
        exact ⟨ret_i HN.out.symm, HE2.out⟩
      · rw [Bool.not_eq_true] at hp
        go_wp2
        go_roundw
        case rel =>
          refine ⟨k + 1, by omega, by go_num, ?_, HE2.out⟩
          rw [take_snoc hx1.out]
          intro y hy
          rcases List.mem_append.1 hy with hy | hy
          · exact HE.out y hy
          · rw [List.mem_singleton] at hy; subst hy; exact hp
        case measure => simp [intOf]; omega
    · obtain rfl : k = xs.length := by omega
      have HN := Lib.hid (M.idx_none (p := p) (xs := xs) (by have := HE.out; rwa [List.take_length] at this))
      clear H HC
      go_wp2
      go_ret
      exact ⟨ret_i HN.out.symm, HQ.out⟩
theorem has_Slot (g : Nat) (caps : Array Value) (p : Slot → Bool) (v : Value) (xs : List Slot) (w : World) (h : Rs w v xs) (hg : ∀ ar u, (callFunc g ar).run Tryz.prog u = .ok (.enter g ar) u)
    (hc : ∀ (w1 : World) (v : Value) (x : Slot), Ext w w1 → x ∈ xs → Rv w1 v x → Calls Tryz.prog g (#[v] ++ caps) w1 fun e w2 => e = .returned (.bool (p x)) ∧ Ext w1 w2) :
    Calls Tryz.prog 174 #[v, .func (.func g) #[] caps] w fun e w' => e = .returned (.bool (xs.any p)) ∧ Ext w w' := by
  have HX := Lib.hid (idx_Slot g caps p v xs w h hg hc)
  clear hc hg h
  go_enter Tryz.func174, Tryz.ntmps174
  go_wp2_with fail
  refine HX.out.mono ?_
  rintro e w2 ⟨rfl, he2⟩
  have HE := Lib.hid he2
  have HN := Lib.hid (M.idx_any (p := p) (xs := xs))
  clear he2
  generalize M.idx p xs = i at *
  go_wp2
  go_ret
  exact ⟨wp_cond_ret HN.out, HE.out⟩
theorem idx_Order (g : Nat) (caps : Array Value) (p : Order → Bool) (v : Value) (xs : List Order) (w : World) (h : Rs w v xs) (hg : ∀ ar u, (callFunc g ar).run Tryz.prog u = .ok (.enter g ar) u)
    (hc : ∀ (w1 : World) (v : Value) (x : Order), Ext w w1 → x ∈ xs → Rv w1 v x → Calls Tryz.prog g (#[v] ++ caps) w1 fun e w2 => e = .returned (.bool (p x)) ∧ Ext w1 w2) :
    Calls Tryz.prog 176 #[v, .func (.func g) #[] caps] w fun e w' => e = .returned (.int .i64 (M.idx p xs)) ∧ Ext w w' := by
  obtain ⟨a, c, rfl, hl⟩ := h.form
  have H := Lib.hid h
  have HC := Lib.hid hc
  clear h hc
  go_enter Tryz.func176, Tryz.ntmps176
  go_wp2
  go_loopw [5, 8] (fun _ i wr => ∃ k : Nat, k ≤ xs.length ∧ i = .int .i64 k ∧ (∀ x ∈ xs.take k, p x = false) ∧ Ext w wr) (fun _ i _ => xs.length - (intOf i).toNat)
  case atStart => exact ⟨0, Nat.zero_le _, rfl, by simp, .refl _⟩
  case round =>
    obtain ⟨k, hk, rfl, he, hq⟩ := hrel
    have HE := Lib.hid he
    have HQ := Lib.hid hq
    clear he hq
    by_cases hlt : k < xs.length
    · skip
      obtain ⟨b, o, x, rfl, hb, hx1, hc0, hc1, hc2, hr0, hr1, hr2, hv⟩ := (H.out.ext HQ.out).atOrder k hlt
      have hcx := Lib.hid (HC.out wr _ x HQ.out (List.mem_of_getElem? hx1.out) hv.out)
      clear H HC
      go_wp2_with fail
      refine hcx.out.mono ?_
      rintro e w2 ⟨rfl, he2⟩
      have HE2 := Lib.hid (HQ.out.tr he2)
      clear he2
      by_cases hp : p x = true
      · have HN := Lib.hid (M.idx_at HE.out hx1.out hp)
        go_wp2
        go_ret
        exact ⟨ret_i HN.out.symm, HE2.out⟩
      · rw [Bool.not_eq_true] at hp
        go_wp2
        go_roundw
        case rel =>
          refine ⟨k + 1, by omega, by go_num, ?_, HE2.out⟩
          rw [take_snoc hx1.out]
          intro y hy
          rcases List.mem_append.1 hy with hy | hy
          · exact HE.out y hy
          · rw [List.mem_singleton] at hy; subst hy; exact hp
        case measure => simp [intOf]; omega
    · obtain rfl : k = xs.length := by omega
      have HN := Lib.hid (M.idx_none (p := p) (xs := xs) (by have := HE.out; rwa [List.take_length] at this))
      clear H HC
      go_wp2
      go_ret
      exact ⟨ret_i HN.out.symm, HQ.out⟩
theorem has_Order (g : Nat) (caps : Array Value) (p : Order → Bool) (v : Value) (xs : List Order) (w : World) (h : Rs w v xs) (hg : ∀ ar u, (callFunc g ar).run Tryz.prog u = .ok (.enter g ar) u)
    (hc : ∀ (w1 : World) (v : Value) (x : Order), Ext w w1 → x ∈ xs → Rv w1 v x → Calls Tryz.prog g (#[v] ++ caps) w1 fun e w2 => e = .returned (.bool (p x)) ∧ Ext w1 w2) :
    Calls Tryz.prog 144 #[v, .func (.func g) #[] caps] w fun e w' => e = .returned (.bool (xs.any p)) ∧ Ext w w' := by
  have HX := Lib.hid (idx_Order g caps p v xs w h hg hc)
  clear hc hg h
  go_enter Tryz.func144, Tryz.ntmps144
  go_wp2_with fail
  refine HX.out.mono ?_
  rintro e w2 ⟨rfl, he2⟩
  have HE := Lib.hid he2
  have HN := Lib.hid (M.idx_any (p := p) (xs := xs))
  clear he2
  generalize M.idx p xs = i at *
  go_wp2
  go_ret
  exact ⟨wp_cond_ret HN.out, HE.out⟩
end Sk

