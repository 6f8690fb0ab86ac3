/- Contracts of functions of the given program, and lemmas for them: each theorem states the condition under which it holds. -/
import Derived.Test.YtpegmdigobmjeaaChecked
import Derived.Test.YtpegmdigobmjeaaHelp
namespace Sk
open Go Go.Proofs Go.RowKit
set_option maxHeartbeats 400000
set_option maxRecDepth 100000
set_option linter.unusedVariables false
set_option linter.unusedSimpArgs false
theorem info_Int : (Try.prog.info? 3).map (fun i => (i.zero, i.size, i.bytes)) = some (some (.int .i64 0), 1, 8) := by kernel_rfl
theorem toIntS (v : Value) (xs : List Int) (w : World) (h : Rs w v xs) (hn : GT.tot xs ≤ 1048576) :
   Calls Try.prog 9 #[v] w fun e w' => ∃ v', e = .returned v' ∧ Os w.heap.size w' v' xs ∧ Ext w w' := by
  obtain ⟨a, c, rfl, hl⟩ := h.form
  obtain ⟨i0, hi, hz0, hz1, hz2⟩ := info_parts info_Int
  have hln : xs.length ≤ 1048576 := Nat.le_trans tot_len hn
  have hmk : ∀ u : World, (Instr.makeSlice 22 (.int .i64 xs.length) (.int .i64 xs.length)).run Try.prog u =
      .ok (.slice (some ⟨u.heap.size, 0, none⟩) xs.length xs.length) (u.alloc (.cells (madeCells #[.int .i64 0] (xs.length * 1)) 3)) := fun u => by
    have h := run_make (P := Try.prog) u 22 3 i0 (.int .i64 0) Try.underlying22 hi hz0 .i64 .i64 xs.length xs.length (by omega) (Int.le_refl _) (by rw [hz2]; omega) (by omega)
    simpa [hz1, Value.cells] using h
  have H := Lib.hid h
  have HN := Lib.hid hn
  clear h hn hi hz0 hz1 hz2
  go_enter Try.func9, Try.ntmps9
  go_wp2
  go_loopw [4] (fun i wr => ∃ k : Nat, k ≤ xs.length ∧ i = .int .i64 k ∧ Os w.heap.size wr (.slice (some ⟨w.heap.size, 0, none⟩) xs.length xs.length) (xs.take k ++ List.replicate (xs.length - k) 0) ∧ Ext w wr) (fun i _ => xs.length - (intOf i).toNat)
  case atStart => exact ⟨0, Nat.zero_le _, rfl, by have := Os.made (α := Int) w xs.length 3 #[.int .i64 0] 0 rfl rfl hl; simpa [GT.sz] using this, (Ext.refl w).alloc _⟩
  case round =>
    obtain ⟨k, hk, rfl, hb, he⟩ := hrel
    have HB := Lib.hid hb
    have HE := Lib.hid he
    clear hb he
    by_cases hlt : k < xs.length
    · obtain ⟨b, o, x, rfl, _, hx, hc0, g0⟩ := (H.out.ext HE.out).atInt k hlt
      clear H
      obtain ⟨b2, o2, cs2, F2, x0, hb2, _, hL, ⟨rfl, _, _⟩, hat, hf2⟩ := HB.out.at k (by simp; omega)
      cases hb2
      have hd0 := hat 0 _ rfl
      simp only [GT.sz, Nat.mul_one, Nat.add_zero, Nat.zero_add] at hd0
      have HB2 := Lib.hid (HB.out.put (i := k) (Ext.refl _) (by simp; omega) HE.out.sz (⟨[], ⟨rfl, g0, rfl⟩, Own.nil _ _⟩ : Ow wr.heap.size _ _ x))
      have HE2 := Lib.hid HE.out
      clear HB HE hat
      go_wp2
      go_roundw
      case rel =>
        refine ⟨k + 1, by omega, by go_num, ?_, (HE2.out.set (Nat.le_refl _) _)⟩
        have := HB2.out
        rw [set_fill _ _ _ _ _ hlt (by simp; omega), ← take_snoc hx.out] at this
        simpa [putCells, GT.sz] using this
      case measure => simp [intOf]; omega
    · obtain rfl : k = xs.length := by omega
      go_wp2
      go_ret
      exact ⟨_, rfl, by simpa using HB.out, HE.out⟩
end Sk

