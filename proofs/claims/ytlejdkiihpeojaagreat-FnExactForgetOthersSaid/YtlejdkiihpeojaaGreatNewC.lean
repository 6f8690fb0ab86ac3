/- Contracts of functions of the given program, and lemmas for them: each theorem states the condition under which it holds. -/
import Derived.Test.YtlejdkiihpeojaaGreatChecked
import Derived.Deep.CutBlock
import Derived.Deep.CutRange
import Derived.Test.YtlejdkiihpeojaaGreatFrame
namespace Sk
open Go Go.Proofs Go.RowKit
set_option maxHeartbeats 4000000
set_option maxRecDepth 100000
set_option linter.unusedVariables false
set_option linter.unusedSimpArgs false
def M.newCore (c : Int) : Core := if M.inn c 1 8 then ⟨List.replicate c.toNat 0, 0, false⟩ else ⟨[], 0, false⟩
theorem M.newCore_f {c : Int} (h : M.inn c 1 8 = false) : M.newCore c = ⟨[], 0, false⟩ := by simp [M.newCore, h]
theorem M.newCore_t {n : Nat} (h : M.inn (n : Int) 1 8 = true) : M.newCore (n : Int) = ⟨List.replicate n 0, 0, false⟩ := by simp [M.newCore, h]
theorem Ov.core0 (L : Nat) (w : World) : Ov L w (.agg #[.slice none 0 0, .int .i64 0, .bool false]) (⟨[], 0, false⟩ : Core) := ⟨_, [], rfl, GT.zero (α := Core) w, Own.nil _ _⟩
theorem Ov.core {L : Nat} {w : World} {v : Value} {x : Core} (h : Os L w v x.Cells) (hr : rng x.At) : Ov L w (.agg #[v, .int .i64 x.At, .bool x.Stopped]) x := by
 obtain ⟨F, h1, h2⟩ := h
 exact ⟨_, F, rfl, ⟨_, rfl, h1, hr⟩, h2⟩
theorem impl_NewCore (c : Int) (w : World) :
  Calls Tryz.prog 129 #[.int .i64 c] w fun e w' => ∃ v', e = .returned v' ∧ Ov w.heap.size w' v' (M.newCore c) ∧ Ext w w' := by
 cases g : M.inn c 1 8
 ·go_enter Tryz.func129, Tryz.ntmps129
  go_wp2_with (go_at_call 61; refine (impl_in _ _ _ _).mono ?_; rintro e w' ⟨rfl, rfl⟩; rw [g])
  refine bodyPost_ret (v := .agg #[.slice none 0 0, .int .i64 0, .bool false]) (by simp [results, Tryz.results129, go_sem]) rfl ⟨_, rfl, by rw [M.newCore_f g]; exact Ov.core0 _ _, ?_⟩
  repeat (first | exact Ext.refl _ | refine Ext.alloc ?_ _ | refine Ext.set ?_ (by simp) _)
 ·obtain ⟨h1, h2⟩ := M.inn_iff.1 g
  obtain ⟨n, rfl⟩ : ∃ n : Nat, c = n := ⟨c.toNat, by omega⟩
  have hmk : ∀ u : World, (Instr.makeSlice 52 (.int .i64 n) (.int .i64 n)).run Tryz.prog u = .ok (.slice (some ⟨u.heap.size, 0, none⟩) n n) (u.alloc (.cells (madeCells #[.int .i64 0] (n * 1)) 3)) := make_int n (by omega)
  have HO : ∀ u : World, Os u.heap.size (u.alloc (.cells (madeCells #[.int .i64 0] (n * 1)) 3)) (.slice (some ⟨u.heap.size, 0, none⟩) n n) (List.replicate n (0 : Int)) := fun u => Os.made (α := Int) u n 3 #[.int .i64 0] 0 rfl rfl (by omega)
  go_enter Tryz.func129, Tryz.ntmps129
  go_upto_region 3 with (go_at_call 61; refine (impl_in _ _ _ _).mono ?_; rintro e w' ⟨rfl, rfl⟩; rw [g])
  refine abs_world (fun W => Ext w W ∧ Bk W w.heap.size [.slice none 0 0, .int .i64 0, .bool false] 66) ⟨(Ext.refl _).alloc _, Bk.new _ _ _⟩ ?_
  rintro W ⟨e1, kA⟩
  have HE := Lib.hid e1
  have hA := kA.lt
  have z0 := kA.cell (j := 0) rfl
  have z1 := kA.cell (j := 1) rfl
  have z2 := kA.cell (j := 2) rfl
  have zf := kA.fz
  have hsz : w.heap.size ≤ W.heap.size := e1.sz
  have HK := Lib.hid kA
  clear e1 kA
  go_wp2
  have hs : (((W.setCell ⟨w.heap.size, 0, none⟩ (.slice (some ⟨W.heap.size, 0, none⟩) n n)).setCell ⟨w.heap.size, 1, none⟩ (.int .i64 0)).setCell ⟨w.heap.size, 2, none⟩ (.bool false)).heap.size = W.heap.size := by simp
  have HO1 := HO (((W.setCell ⟨w.heap.size, 0, none⟩ (.slice (some ⟨W.heap.size, 0, none⟩) n n)).setCell ⟨w.heap.size, 1, none⟩ (.int .i64 0)).setCell ⟨w.heap.size, 2, none⟩ (.bool false))
  rw [hs, Nat.mul_one] at HO1
  have kz := (((HK.out.set 0 (.slice (some ⟨W.heap.size, 0, none⟩) n n)).set 1 (.int .i64 0)).set 2 (.bool false)).alc (.cells (madeCells #[.int .i64 0] n) 3)
  have y0 := kz.cell (j := 0) rfl
  have y1 := kz.cell (j := 1) rfl
  have y2 := kz.cell (j := 2) rfl
  refine bodyPost_ret (v := .agg #[.slice (some ⟨W.heap.size, 0, none⟩) n n, .int .i64 0, .bool false]) (by simp [results, Tryz.results129, go_sem, y0, y1, y2]) rfl ⟨_, rfl, by rw [M.newCore_t g]; exact Ov.core (x := ⟨List.replicate n 0, 0, false⟩) (HO1.mono hsz) ⟨by show (-9223372036854775808 : Int) ≤ 0; decide, by show (0 : Int) ≤ 9223372036854775807; decide⟩, (((HE.out.set (by simp) _).set (by simp) _).set (by simp) _).alloc _⟩
theorem spec_NewCore (c : Int) (w : World) :
  Calls Tryz.prog 70 #[.int .i64 c] w fun e w' => ∃ v', e = .returned v' ∧ Ov w.heap.size w' v' (M.newCore c) ∧ Ext w w' := by
 cases g : M.inn c 1 8
 ·go_enter Tryz.func70, Tryz.ntmps70
  go_wp2_with (go_at_call 59; refine (spec_In _ _ _ _).mono ?_; rintro e w' ⟨rfl, rfl⟩; rw [g])
  refine bodyPost_ret (v := .agg #[.slice none 0 0, .int .i64 0, .bool false]) (by simp [results, Tryz.results70, go_sem]) rfl ⟨_, rfl, by rw [M.newCore_f g]; exact Ov.core0 _ _, ?_⟩
  repeat (first | exact Ext.refl _ | refine Ext.alloc ?_ _ | refine Ext.set ?_ (by simp) _)
 ·obtain ⟨h1, h2⟩ := M.inn_iff.1 g
  obtain ⟨n, rfl⟩ : ∃ n : Nat, c = n := ⟨c.toNat, by omega⟩
  have hmk : ∀ u : World, (Instr.makeSlice 52 (.int .i64 n) (.int .i64 n)).run Tryz.prog u = .ok (.slice (some ⟨u.heap.size, 0, none⟩) n n) (u.alloc (.cells (madeCells #[.int .i64 0] (n * 1)) 3)) := make_int n (by omega)
  have HO : ∀ u : World, Os u.heap.size (u.alloc (.cells (madeCells #[.int .i64 0] (n * 1)) 3)) (.slice (some ⟨u.heap.size, 0, none⟩) n n) (List.replicate n (0 : Int)) := fun u => Os.made (α := Int) u n 3 #[.int .i64 0] 0 rfl rfl (by omega)
  go_enter Tryz.func70, Tryz.ntmps70
  go_upto_region 3 with (go_at_call 59; refine (spec_In _ _ _ _).mono ?_; rintro e w' ⟨rfl, rfl⟩; rw [g])
  refine abs_world (fun W => Ext w W ∧ Bk W w.heap.size [.slice none 0 0, .int .i64 0, .bool false] 66) ⟨(Ext.refl _).alloc _, Bk.new _ _ _⟩ ?_
  rintro W ⟨e1, kA⟩
  have HE := Lib.hid e1
  have hA := kA.lt
  have z0 := kA.cell (j := 0) rfl
  have z1 := kA.cell (j := 1) rfl
  have z2 := kA.cell (j := 2) rfl
  have zf := kA.fz
  have hsz : w.heap.size ≤ W.heap.size := e1.sz
  have HK := Lib.hid kA
  clear e1 kA
  go_wp2
  have hs : (((W.setCell ⟨w.heap.size, 0, none⟩ (.slice (some ⟨W.heap.size, 0, none⟩) n n)).setCell ⟨w.heap.size, 1, none⟩ (.int .i64 0)).setCell ⟨w.heap.size, 2, none⟩ (.bool false)).heap.size = W.heap.size := by simp
  have HO1 := HO (((W.setCell ⟨w.heap.size, 0, none⟩ (.slice (some ⟨W.heap.size, 0, none⟩) n n)).setCell ⟨w.heap.size, 1, none⟩ (.int .i64 0)).setCell ⟨w.heap.size, 2, none⟩ (.bool false))
  rw [hs, Nat.mul_one] at HO1
  have kz := (((HK.out.set 0 (.slice (some ⟨W.heap.size, 0, none⟩) n n)).set 1 (.int .i64 0)).set 2 (.bool false)).alc (.cells (madeCells #[.int .i64 0] n) 3)
  have y0 := kz.cell (j := 0) rfl
  have y1 := kz.cell (j := 1) rfl
  have y2 := kz.cell (j := 2) rfl
  refine bodyPost_ret (v := .agg #[.slice (some ⟨W.heap.size, 0, none⟩) n n, .int .i64 0, .bool false]) (by simp [results, Tryz.results70, go_sem, y0, y1, y2]) rfl ⟨_, rfl, by rw [M.newCore_t g]; exact Ov.core (x := ⟨List.replicate n 0, 0, false⟩) (HO1.mono hsz) ⟨by show (-9223372036854775808 : Int) ≤ 0; decide, by show (0 : Int) ≤ 9223372036854775807; decide⟩, (((HE.out.set (by simp) _).set (by simp) _).set (by simp) _).alloc _⟩
end Sk
